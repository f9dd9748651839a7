/- All numbers of a sheet. No condition. -/
import Derived.Test.YtmgpjfnlciapkaaGreatDoorYF
set_option linter.unusedVariables false
set_option linter.unusedSimpArgs false
namespace Go.Proofs.YtmgpjfnlciapkaaGreatDoor
open Go Go.CM Go.CM.Tt
noncomputable section
set_option maxHeartbeats 8000000
theorem addTimes_w {h H : Heap} {tm : Tm} {Q : R → Prop} {b : Nat} {v : CV} {l : List Int} (t : Times) (X : Ext H h) (ob : OwnB h H b 1 v (l.map Flat.enc)) (hl : l.length ≤ 1073741824)
    (q : ∀ h' v', Ext H h' → OwnB h' H b 1 v' ((l ++ t.nums).map Flat.enc) → Q (.val (.tup []) h')) : W E1 (.call (.fn 146 [] [.ptr (some (b, 0))]) [.agg t.enc]) tm h Q := by
  refine W.fn (s := fnOf Tryz.f146) rfl rfl rfl rfl ?_
  have Lb := ob.loc
  repeat (first | (with_reducible first | refine W.seq ?_ | refine W.region ?_ | refine SeqQ.normal ?_) | refine W.box rfl rfl rfl fun h_ X_ n_ g_ L_ => ?_ | refine W.bs1 rfl rfl rfl rfl fun h_ X_ n_ g_ S_ => ?_ | refine W.opn (v := .ptr _) rfl rfl rfl ?_ | refine W.nil ?_ | refine W.ldk (by assumption) (by (repeat (first | assumption | exact Ext.refl _ | refine Ext.trans ?_ (by assumption))); done) rfl rfl rfl rfl rfl rfl rfl rfl ?_ | refine W.ld0 (by assumption) (by (repeat (first | assumption | exact Ext.refl _ | refine Ext.trans ?_ (by assumption))); done) rfl rfl rfl rfl rfl rfl rfl rfl ?_)
  have S_ : SlG _ 1 _ (t.nums.map Flat.enc) := S_
  refine W.apst (H := H) (z := 1) (X.trans (by (repeat (first | assumption | exact Ext.refl _ | refine Ext.trans ?_ (by assumption))); done)) (ob.ext (by (repeat (first | assumption | exact Ext.refl _ | refine Ext.trans ?_ (by assumption))); done)) S_ rfl rfl rfl rfl rfl rfl rfl rfl rfl rfl rfl rfl (by
    simp only [List.length_map]
    show (_ + 3) * 8 ≤ _
    omega) (fun _ => rfl) rfl (fun _ => rfl) (fun _ => rfl) rfl rfl fun v' h' X' ob' _ _ => ?_
  repeat (first | refine W.nil ?_)
  exact q _ _ X' (by rw [map_app]; exact ob')
theorem numbers_w {h : Heap} {tm : Tm} {Q : R → Prop} {cs : List CV} {x : SheetD} (r : Rp.R h cs x) (few : x.few) (hl : x.nums.length ≤ 1073741824)
    (q : ∀ h' v', Ext h h' → Sl h' v' x.nums → Q (.val v' h')) : W E1 (.call (.fn 78 [] []) [.agg cs]) tm h Q := by
  obtain ⟨v1, v2, v3, v4, v5, v6, rfl, s1, s2, s3, s4, s5, s6⟩ := r
  obtain ⟨f1, f2, f3, f4, f5, f6⟩ := few
  refine W.fn (s := fnOf Tryz.f78) rfl rfl rfl rfl ?_
  unfold SheetD.nums at hl q
  obtain ⟨pA, hpA⟩ : ∃ pA, pA = x.paths.flatMap fun p => [p.len] := ⟨_, rfl⟩
  have e1 : (x.paths.map fun p => p.len) = pA := by rw [hpA]; induction x.paths with
    | nil => rfl
    | cons a l ih => rw [List.map_cons, ih]; rfl
  obtain ⟨dA, hdA⟩ : ∃ dA, dA = x.doors.flatMap fun d => d.len :: d.times.nums := ⟨_, rfl⟩
  obtain ⟨rA, hrA⟩ : ∃ rA, rA = x.routes.flatMap fun r => r.rides ++ r.stays := ⟨_, rfl⟩
  obtain ⟨tA, htA⟩ : ∃ tA, tA = x.trips.flatMap fun t => [t.frm, t.evr, t.untl] := ⟨_, rfl⟩
  obtain ⟨hA, hhA⟩ : ∃ hA, hA = x.hazards.flatMap fun h => h.times.nums := ⟨_, rfl⟩
  rw [e1, ← hdA, ← hrA, ← htA, ← hhA] at hl q
  clear e1
  simp only [List.length_append, List.length_cons, List.length_nil] at hl
  repeat (refine W.seq ?_)
  refine W.region ?_
  refine W.box rfl rfl rfl fun H XH nH gH LH => ?_
  repeat (first | (with_reducible first | refine W.seq ?_ | refine W.block ?_ | refine W.region ?_ | refine SeqQ.normal ?_) | refine W.lnS (by assumption) rfl rfl rfl rfl rfl rfl rfl rfl ?_ | refine W.var rfl rfl rfl rfl rfl rfl rfl rfl rfl (by first | rfl | assumption) rfl fun h_ X_ n_ g_ L_ => ?_ | refine W.bs1 rfl rfl rfl rfl fun h_ X_ n_ g_ S_ => ?_ | refine W.opn (v := .int _ _) rfl rfl rfl ?_ | refine W.opn (v := .ptr _) rfl rfl rfl ?_ | refine W.opn (v := .slice _ _ _ _) rfl rfl rfl ?_ | refine W.opn rfl rfl rfl ?_ | refine W.nil ?_ | refine W.ldk (by assumption) (by (repeat (first | assumption | exact Ext.refl _ | refine Ext.trans ?_ (by assumption))); done) rfl rfl rfl rfl rfl rfl rfl rfl ?_)
  rename_i hb Xb nb gb
  have O : OwnB h_ H hb.next 1 (.slice (some (H.next, 0)) 1 1 0) (([x.hz] : List Int).map Flat.enc) := ⟨g_, by omega, by omega, .inr ⟨H.next, 0, false, rfl, Nat.le_refl _, by omega, (X_.old _ (by omega)).trans gb, fun e he => (by
    have : e = [.int .i64 x.hz] := by simpa [Flat.enc] using he
    rw [this]; rfl), .inl ⟨rfl, .inr rfl⟩⟩, fun e => by
    have : H.next = hb.next := by simpa [idOf] using e
    omega⟩
  have Y : Ext H h_ := (by (repeat (first | assumption | exact Ext.refl _ | refine Ext.trans ?_ (by assumption))); done)
  have hlo : H.next < hb.next := by omega
  clear S_ L_ g_ gb
  refine W.keep6 1 3 4 20 21 22 fun T k1 k3 k4 k20 k21 k22 => ?_
  conv at k1 => rhs; whnf
  conv at k3 => rhs; whnf
  conv at k4 => rhs; whnf
  conv at k20 => rhs; whnf
  conv at k21 => rhs; whnf
  conv at k22 => rhs; whnf
  rw [show T = ((((((T.set 1 (some (T.look 1))).set 3 (some (T.look 3))).set 4 (some (T.look 4))).set 20 (some (T.look 20))).set 21 (some (T.look 21))).set 22 (some (T.look 22))) from rfl, k1, k3, k4, k20, k21, k22]
  clear k1 k3 k4 k20 k21 k22
  obtain ⟨b, hbe⟩ : ∃ b, b = hb.next := ⟨_, rfl⟩
  rw [← hbe] at O hlo
  rw [← hbe]
  refine W.loop (σ := Nat) (fun k tm h' => Ext H h' ∧ tm.look 1 = .ptr (some (h.next, 0)) ∧ tm.look 3 = .ptr (some (b, 0)) ∧ tm.look 4 = .fn 146 [] [.ptr (some (b, 0))] ∧ tm.look 20 = v2 ∧ tm.look 21 = .int .i64 (x.paths.length : Int) ∧ tm.look 22 = .int .i64 (k : Int) ∧ k ≤ x.paths.length ∧ ∃ vo, OwnB h' H b 1 vo (([x.hz] ++ (x.paths.take k).flatMap (fun p => [p.len])).map Flat.enc)) (fun k => x.paths.length - k) ?_ (s := 0)
    ⟨Y, rfl, rfl, rfl, rfl, rfl, rfl, Nat.zero_le _, _, by rw [List.take_zero, List.flatMap_nil, List.append_nil]; exact O⟩
  clear O
  rintro k tm h' ⟨X, w1, w3, w4, w20, w21, w22, hk, vo, O⟩
  obtain ⟨T, rfl⟩ : ∃ T : Tm, tm = ((((((T.set 1 (some (.ptr (some (h.next, 0))))).set 3 (some (.ptr (some (b, 0))))).set 4 (some (.fn 146 [] [.ptr (some (b, 0))]))).set 20 (some (v2))).set 21 (some (.int .i64 (x.paths.length : Int)))).set 22 (some (.int .i64 (k : Int)))) := ⟨tm, (show tm = ((((((tm.set 1 (some (tm.look 1))).set 3 (some (tm.look 3))).set 4 (some (tm.look 4))).set 20 (some (tm.look 20))).set 21 (some (tm.look 21))).set 22 (some (tm.look 22))) by rfl).trans (by rw [w1, w3, w4, w20, w21, w22])⟩
  clear w1 w3 w4 w20 w21 w22
  by_cases c1 : k < x.paths.length
  · have Lb := O.loc
    have hfl := flat_le (l := x.paths) (f := (fun p => [p.len])) (k := k + 1)
    rw [take_flat c1] at hfl
    simp only [List.length_append, List.length_cons, List.length_nil] at hfl
    rw [← hpA] at hfl
    repeat (first | (with_reducible first | refine W.seq ?_ | refine W.block ?_ | refine W.region ?_ | refine W.skip ?_ | refine SeqQ.normal ?_) | refine W.opn rfl op_lss rfl ?_ | refine W.nil ?_ | refine W.cond (x := true) rfl (fun _ => ?_) (fun hc => by cases hc) | rw [decide_eq_true (by first | assumption | omega)])
    refine W.ixF (by assumption) (by first | assumption | omega) rfl rfl rfl rfl rfl rfl rfl fun i_ o_ L_ => ?_
    repeat (first | (with_reducible first | refine W.region ?_ | refine SeqQ.normal ?_) | refine W.var rfl rfl rfl rfl rfl rfl rfl rfl rfl (by first | rfl | assumption) rfl fun h_ X_ n_ g_ L_ => ?_ | refine W.bs1 rfl rfl rfl rfl fun h_ X_ n_ g_ S_ => ?_ | refine W.opn (v := .ptr _) rfl rfl rfl ?_ | refine W.nil ?_ | refine W.ldk (by assumption) (by (repeat (first | assumption | exact Ext.refl _ | refine Ext.trans ?_ (by assumption))); done) rfl rfl rfl rfl rfl rfl rfl rfl ?_ | refine W.ldw (by assumption) (by (repeat (first | assumption | exact Ext.refl _ | refine Ext.trans ?_ (by assumption))); done) rfl rfl rfl rfl (by first | rfl | assumption) rfl rfl ?_ | refine W.ld0 (by assumption) (by (repeat (first | assumption | exact Ext.refl _ | refine Ext.trans ?_ (by assumption))); done) rfl rfl rfl rfl rfl rfl rfl rfl ?_)
    have S_ : SlG _ 1 _ (([x.paths[k].len] : List Int).map Flat.enc) := S_
    refine W.apst (H := H) (z := 1) (by (repeat (first | assumption | exact Ext.refl _ | refine Ext.trans ?_ (by assumption))); done) (O.ext (by (repeat (first | assumption | exact Ext.refl _ | refine Ext.trans ?_ (by assumption))); done)) S_ rfl rfl rfl rfl rfl rfl rfl rfl rfl rfl rfl rfl (by
      simp only [List.length_map, List.length_append, List.length_cons, List.length_nil]
      show _ * 8 ≤ _
      omega) (fun _ => rfl) rfl (fun _ => rfl) (fun _ => rfl) rfl rfl fun v' h2 X2 O2 _ _ => ?_
    repeat (first | (with_reducible first | refine W.region ?_ | refine SeqQ.normal ?_ | refine BlockQ.normal ?_) | refine W.opn rfl (op_add (by omega) (by omega)) rfl ?_ | refine W.opn (v := .int _ _) rfl rfl rfl ?_ | refine W.nil ?_)
    exact ⟨k + 1, lessN c1, X2, rfl, rfl, rfl, rfl, rfl, rfl, c1, _, by rw [take_flat c1, ← List.append_assoc, map_app]; exact O2⟩
  repeat (first | (with_reducible first | refine W.seq ?_ | refine W.block ?_ | refine W.region ?_ | refine W.exit ?_ | refine SeqQ.normal ?_ | refine SeqQ.exit ?_ | refine BlockQ.exit ?_ | refine LoopQ.exit ?_) | refine W.lnS (by assumption) rfl rfl rfl rfl rfl rfl rfl rfl ?_ | refine W.opn rfl op_lss rfl ?_ | refine W.opn (v := .int _ _) rfl rfl rfl ?_ | refine W.opn (v := .ptr _) rfl rfl rfl ?_ | refine W.nil ?_ | refine W.ldk (by assumption) (by (repeat (first | assumption | exact Ext.refl _ | refine Ext.trans ?_ (by assumption))); done) rfl rfl rfl rfl rfl rfl rfl rfl ?_ | refine W.cond (x := false) rfl (fun hc => by cases hc) (fun _ => ?_) | rw [decide_eq_false (by first | assumption | omega)])
  rw [show k = x.paths.length by omega, List.take_length, ← hpA] at O
  refine W.keep6 1 3 4 33 34 35 fun T k1 k3 k4 k33 k34 k35 => ?_
  conv at k1 => rhs; whnf
  conv at k3 => rhs; whnf
  conv at k4 => rhs; whnf
  conv at k33 => rhs; whnf
  conv at k34 => rhs; whnf
  conv at k35 => rhs; whnf
  rw [show T = ((((((T.set 1 (some (T.look 1))).set 3 (some (T.look 3))).set 4 (some (T.look 4))).set 33 (some (T.look 33))).set 34 (some (T.look 34))).set 35 (some (T.look 35))) from rfl, k1, k3, k4, k33, k34, k35]
  clear k1 k3 k4 k33 k34 k35
  refine W.loop (σ := Nat) (fun k tm h' => Ext H h' ∧ tm.look 1 = .ptr (some (h.next, 0)) ∧ tm.look 3 = .ptr (some (b, 0)) ∧ tm.look 4 = .fn 146 [] [.ptr (some (b, 0))] ∧ tm.look 33 = v3 ∧ tm.look 34 = .int .i64 (x.doors.length : Int) ∧ tm.look 35 = .int .i64 (k : Int) ∧ k ≤ x.doors.length ∧ ∃ vo, OwnB h' H b 1 vo ((([x.hz] ++ pA) ++ (x.doors.take k).flatMap (fun d => d.len :: d.times.nums)).map Flat.enc)) (fun k => x.doors.length - k) ?_ (s := 0)
    ⟨X, rfl, rfl, rfl, rfl, rfl, rfl, Nat.zero_le _, _, by rw [List.take_zero, List.flatMap_nil, List.append_nil]; exact O⟩
  clear O
  rintro k tm h' ⟨X, w1, w3, w4, w33, w34, w35, hk, vo, O⟩
  obtain ⟨T, rfl⟩ : ∃ T : Tm, tm = ((((((T.set 1 (some (.ptr (some (h.next, 0))))).set 3 (some (.ptr (some (b, 0))))).set 4 (some (.fn 146 [] [.ptr (some (b, 0))]))).set 33 (some (v3))).set 34 (some (.int .i64 (x.doors.length : Int)))).set 35 (some (.int .i64 (k : Int)))) := ⟨tm, (show tm = ((((((tm.set 1 (some (tm.look 1))).set 3 (some (tm.look 3))).set 4 (some (tm.look 4))).set 33 (some (tm.look 33))).set 34 (some (tm.look 34))).set 35 (some (tm.look 35))) by rfl).trans (by rw [w1, w3, w4, w33, w34, w35])⟩
  clear w1 w3 w4 w33 w34 w35
  by_cases c1 : k < x.doors.length
  · have Lb := O.loc
    have hfl := flat_le (l := x.doors) (f := (fun d => d.len :: d.times.nums)) (k := k + 1)
    rw [take_flat c1] at hfl
    simp only [List.length_append, List.length_cons, List.length_nil] at hfl
    rw [← hdA] at hfl
    have nb2 : idOf vo ≠ [h'.next] := by
      rcases O.own.notIn (Nat.le_refl _) with e | ⟨i, e, hi, _⟩
      · rw [e]; intro h; cases h
      · rw [e]; intro h; exact hi (by simpa using h)
    have blt := O.lt
    repeat (first | (with_reducible first | refine W.seq ?_ | refine W.block ?_ | refine W.region ?_ | refine W.skip ?_ | refine SeqQ.normal ?_) | refine W.opn rfl op_lss rfl ?_ | refine W.nil ?_ | refine W.cond (x := true) rfl (fun _ => ?_) (fun hc => by cases hc) | rw [decide_eq_true (by first | assumption | omega)])
    refine W.ixF (by assumption) (by first | assumption | omega) rfl rfl rfl rfl rfl rfl rfl fun i_ o_ L_ => ?_
    repeat (first | (with_reducible first | refine W.seq ?_ | refine W.region ?_ | refine SeqQ.normal ?_) | refine W.var rfl rfl rfl rfl rfl rfl rfl rfl rfl (by first | rfl | assumption) rfl fun h_ X_ n_ g_ L_ => ?_ | refine W.bs1 rfl rfl rfl rfl fun h_ X_ n_ g_ S_ => ?_ | refine W.opn (v := .ptr _) rfl rfl rfl ?_ | refine W.nil ?_ | refine W.ldk (by assumption) (by (repeat (first | assumption | exact Ext.refl _ | refine Ext.trans ?_ (by assumption))); done) rfl rfl rfl rfl rfl rfl rfl rfl ?_ | refine W.ldw (by assumption) (by (repeat (first | assumption | exact Ext.refl _ | refine Ext.trans ?_ (by assumption))); done) rfl rfl rfl rfl (by first | rfl | assumption) rfl rfl ?_ | refine W.ld0 (by assumption) (by (repeat (first | assumption | exact Ext.refl _ | refine Ext.trans ?_ (by assumption))); done) rfl rfl rfl rfl rfl rfl rfl rfl ?_)
    rename_i hv Xv nv gv
    have Lv : LocE hv h'.next 0 (x.doors[k]).enc := L_
    clear L_ gv g_
    have S_ : SlG _ 1 _ (([x.doors[k].len] : List Int).map Flat.enc) := S_
    refine W.apst (H := H) (z := 1) (by (repeat (first | assumption | exact Ext.refl _ | refine Ext.trans ?_ (by assumption))); done) (O.ext (by (repeat (first | assumption | exact Ext.refl _ | refine Ext.trans ?_ (by assumption))); done)) S_ rfl rfl rfl rfl rfl rfl rfl rfl rfl rfl rfl rfl (by
      simp only [List.length_map, List.length_append, List.length_cons, List.length_nil]
      show _ * 8 ≤ _
      omega) (fun _ => rfl) rfl (fun _ => rfl) (fun _ => rfl) rfl rfl fun v' h2 X2 O2 keep2 n2 => ?_
    rw [← map_app] at O2
    have Lv2 : LocE h2 h'.next 0 (x.doors[k]).enc := (Lv.ext X_).of_get (keep2 _ (by omega) (by omega) nb2) n2
    clear Lv Lb
    repeat (first | (with_reducible first | refine W.region ?_ | refine SeqQ.normal ?_) | refine W.opn (v := .ptr _) rfl rfl rfl ?_ | refine W.opn rfl rfl rfl ?_ | refine W.nil ?_ | refine W.ldp (by assumption) (by (repeat (first | assumption | exact Ext.refl _ | refine Ext.trans ?_ (by assumption))); done) rfl rfl rfl rfl rfl rfl rfl ?_)
    refine W.call rfl rfl rfl (addTimes_w (x.doors[k]).times X2 O2 (by
      simp only [List.length_append, List.length_cons, List.length_nil]
      omega) fun h3 v3 X3 O3 => ?_)
    repeat (first | (with_reducible first | refine W.region ?_ | refine SeqQ.normal ?_ | refine BlockQ.normal ?_ | refine CallQ.val ?_) | refine W.opn rfl (op_add (by omega) (by omega)) rfl ?_ | refine W.opn (v := .int _ _) rfl rfl rfl ?_ | refine W.nil ?_)
    exact ⟨k + 1, lessN c1, X3, rfl, rfl, rfl, rfl, rfl, rfl, c1, _, by rw [take_flat c1]; simpa [List.append_assoc] using O3⟩
  repeat (first | (with_reducible first | refine W.seq ?_ | refine W.block ?_ | refine W.region ?_ | refine W.exit ?_ | refine SeqQ.normal ?_ | refine SeqQ.exit ?_ | refine BlockQ.exit ?_ | refine LoopQ.exit ?_) | refine W.lnS (by assumption) rfl rfl rfl rfl rfl rfl rfl rfl ?_ | refine W.opn rfl op_lss rfl ?_ | refine W.opn (v := .int _ _) rfl rfl rfl ?_ | refine W.opn (v := .ptr _) rfl rfl rfl ?_ | refine W.nil ?_ | refine W.ldk (by assumption) (by (repeat (first | assumption | exact Ext.refl _ | refine Ext.trans ?_ (by assumption))); done) rfl rfl rfl rfl rfl rfl rfl rfl ?_ | refine W.cond (x := false) rfl (fun hc => by cases hc) (fun _ => ?_) | rw [decide_eq_false (by first | assumption | omega)])
  rw [show k = x.doors.length by omega, List.take_length, ← hdA] at O
  refine W.keep6 1 3 4 50 51 52 fun T k1 k3 k4 k50 k51 k52 => ?_
  conv at k1 => rhs; whnf
  conv at k3 => rhs; whnf
  conv at k4 => rhs; whnf
  conv at k50 => rhs; whnf
  conv at k51 => rhs; whnf
  conv at k52 => rhs; whnf
  rw [show T = ((((((T.set 1 (some (T.look 1))).set 3 (some (T.look 3))).set 4 (some (T.look 4))).set 50 (some (T.look 50))).set 51 (some (T.look 51))).set 52 (some (T.look 52))) from rfl, k1, k3, k4, k50, k51, k52]
  clear k1 k3 k4 k50 k51 k52
  refine W.loop (σ := Nat) (fun k tm h' => Ext H h' ∧ tm.look 1 = .ptr (some (h.next, 0)) ∧ tm.look 3 = .ptr (some (b, 0)) ∧ tm.look 4 = .fn 146 [] [.ptr (some (b, 0))] ∧ tm.look 50 = v4 ∧ tm.look 51 = .int .i64 (x.routes.length : Int) ∧ tm.look 52 = .int .i64 (k : Int) ∧ k ≤ x.routes.length ∧ ∃ vo, OwnB h' H b 1 vo ((([x.hz] ++ pA ++ dA) ++ (x.routes.take k).flatMap (fun r => r.rides ++ r.stays)).map Flat.enc)) (fun k => x.routes.length - k) ?_ (s := 0)
    ⟨X, rfl, rfl, rfl, rfl, rfl, rfl, Nat.zero_le _, _, by rw [List.take_zero, List.flatMap_nil, List.append_nil]; exact O⟩
  clear O
  rintro k tm h' ⟨X, w1, w3, w4, w50, w51, w52, hk, vo, O⟩
  obtain ⟨T, rfl⟩ : ∃ T : Tm, tm = ((((((T.set 1 (some (.ptr (some (h.next, 0))))).set 3 (some (.ptr (some (b, 0))))).set 4 (some (.fn 146 [] [.ptr (some (b, 0))]))).set 50 (some (v4))).set 51 (some (.int .i64 (x.routes.length : Int)))).set 52 (some (.int .i64 (k : Int)))) := ⟨tm, (show tm = ((((((tm.set 1 (some (tm.look 1))).set 3 (some (tm.look 3))).set 4 (some (tm.look 4))).set 50 (some (tm.look 50))).set 51 (some (tm.look 51))).set 52 (some (tm.look 52))) by rfl).trans (by rw [w1, w3, w4, w50, w51, w52])⟩
  clear w1 w3 w4 w50 w51 w52
  by_cases c1 : k < x.routes.length
  · have Lb := O.loc
    have hfl := flat_le (l := x.routes) (f := (fun r => r.rides ++ r.stays)) (k := k + 1)
    rw [take_flat c1] at hfl
    simp only [List.length_append, List.length_cons, List.length_nil] at hfl
    rw [← hrA] at hfl
    have nb2 : idOf vo ≠ [h'.next] := by
      rcases O.own.notIn (Nat.le_refl _) with e | ⟨i, e, hi, _⟩
      · rw [e]; intro h; cases h
      · rw [e]; intro h; exact hi (by simpa using h)
    have blt := O.lt
    repeat (first | (with_reducible first | refine W.seq ?_ | refine W.block ?_ | refine W.region ?_ | refine W.skip ?_ | refine SeqQ.normal ?_) | refine W.opn rfl op_lss rfl ?_ | refine W.nil ?_ | refine W.cond (x := true) rfl (fun _ => ?_) (fun hc => by cases hc) | rw [decide_eq_true (by first | assumption | omega)])
    refine W.ixR s4 c1 rfl rfl rfl rfl rfl rfl rfl fun i_ o_ e L_ r_ => ?_
    obtain ⟨u1, u2, u3, rfl, t1, t2, t3⟩ := r_
    repeat (first | (with_reducible first | refine W.draws ?_ | refine SeqQ.normal ?_) | refine W.var rfl rfl rfl rfl rfl rfl rfl rfl rfl (by first | rfl | assumption) rfl fun h_ X_ n_ g_ L_ => ?_ | refine W.nil ?_ | refine W.ldw (by assumption) (by (repeat (first | assumption | exact Ext.refl _ | refine Ext.trans ?_ (by assumption))); done) rfl rfl rfl rfl (by first | rfl | assumption) rfl rfl ?_)
    have dy : DY (fun c => c = h'.next ∨ c = b) h_ [] [] := DY.start (fun c hc => by rcases hc with rfl | rfl <;> omega)
    have Lb1 : LocE h_ b 0 [vo] := Lb.ext X_
    skip
    refine W.ldY (k := 0) dy (.inr rfl) Lb1 rfl rfl rfl rfl rfl rfl rfl fun r1 ha dy sa Lba => ?_
    have La := L_.ext sa.ext
    repeat (first | refine W.dopn (v := .ptr _) rfl rfl rfl rfl ?_)
    refine W.ldY dy (.inl rfl) La rfl rfl rfl rfl rfl rfl rfl fun r2 hc dy sc Lc => ?_
    have Xc : Ext h' hc := (X_.trans sa.ext).trans sc.ext
    have X1 := XH.trans X
    skip
    refine W.apY (H := H) (z := 1) (l2 := x.routes[k].rides.map Flat.enc) dy (X.trans Xc) (O.own.ext Xc) ((Sl.to_map Flat.iff t2).ext (X1.trans Xc)) (fun c hc => ?_) rfl rfl rfl rfl rfl rfl rfl rfl rfl rfl rfl rfl rfl (by
      simp only [List.length_map, List.length_append, List.length_cons, List.length_nil]
      show _ * 8 ≤ _
      omega) fun r3 v3 hd dy Xd bd nd O3 i3 => ?_
    · have hn2 : ∀ c, H.next ≤ c → c ∉ idOf u2 := fun c hc => SlG.notIn (Sl.to_map Flat.iff (t2.ext XH)) hc
      have hs := X.next
      intro hm
      rcases List.mem_append.1 hm with hm | hm
      · rcases O.own.notIn (Nat.le_refl _) with e | ⟨i, e, hi, _⟩
        · rw [e] at hm; cases hm
        · rw [e] at hm
          have : c = i := by simpa using hm
          rcases hc with rfl | rfl
          · exact hi this.symm
          · exact O.ne (by rw [e, this])
      · refine hn2 c ?_ hm
        rcases hc with rfl | rfl <;> omega
    have n1c : h_.next ≤ hc.next := by rw [sc.next, sa.next]; exact Nat.le_refl _
    have nbv := i3 b (by omega) O.ne
    obtain ⟨pv, nv, cv, xv, e⟩ := O3.form
    cases e
    repeat (first | refine W.dopn (v := .ptr _) rfl rfl rfl rfl ?_)
    refine W.ldY dy (.inl rfl) (Lc.of_get (bd _ (.inl rfl)) nd) rfl rfl rfl rfl rfl rfl rfl fun r4 he dy se Le => ?_
    have Xe : Ext H he := Xd.trans se.ext
    skip
    refine W.apY (H := H) (z := 1) (l2 := x.routes[k].stays.map Flat.enc) dy Xe (O3.ext se.ext) ((Sl.to_map Flat.iff t3).ext (XH.trans Xe)) (fun c hc => ?_) rfl rfl rfl rfl rfl rfl rfl rfl rfl rfl rfl rfl rfl (by
      simp only [List.length_map, List.length_append, List.length_cons, List.length_nil]
      show _ * 8 ≤ _
      omega) fun r5 v5 hf dy Xf bf nf O5 i5 => ?_
    · have hn3 : c ∉ idOf u3 := SlG.notIn (Sl.to_map Flat.iff (t3.ext XH)) (by have hs := X.next; rcases hc with rfl | rfl <;> omega)
      intro hm
      rcases List.mem_append.1 hm with hm | hm
      · rcases hc with rfl | rfl
        · exact (i3 h'.next (by omega) nb2) (by
            rcases hp : idOf (CV.slice pv nv cv xv) with _ | ⟨a, r⟩
            · rw [hp] at hm; cases hm
            · have h1 : r = [] := by
                cases pv with
                | none => cases hp
                | some p => cases hp; rfl
              rw [hp, h1] at hm
              rw [h1, List.mem_singleton.1 hm])
        · exact nbv (by
            rcases hp : idOf (CV.slice pv nv cv xv) with _ | ⟨a, r⟩
            · rw [hp] at hm; cases hm
            · have h1 : r = [] := by
                cases pv with
                | none => cases hp
                | some p => cases hp; rfl
              rw [hp, h1] at hm
              rw [h1, List.mem_singleton.1 hm])
      · exact hn3 hm
    have nbv5 := i5 b (by rw [se.next]; omega) nbv
    have hfn : hc.next ≤ hf.next := by
      have := se.next
      omega
    have gb5 : hf.get b = some (.cells [vo] false) := (bf b (.inr rfl)).trans ((se.get b).trans ((bd b (.inr rfl)).trans ((sc.get b).trans ((sa.get b).trans ((X_.old b blt).trans O.at')))))
    obtain ⟨pv, nv, cv, xv, e⟩ := O5.form
    cases e
    skip
    refine W.dst (vs := [.slice pv nv cv xv]) (cs' := [.slice pv nv cv xv]) (fun r hr => (dy.r r hr).1) rfl rfl rfl rfl rfl rfl rfl gb5 rfl fun r6 hg hr6 s6 => ?_
    repeat (first | refine W.dnil ?_)
    repeat (first | (with_reducible first | refine W.region ?_ | refine SeqQ.normal ?_ | refine BlockQ.normal ?_) | refine W.opn rfl (op_add (by omega) (by omega)) rfl ?_ | refine W.opn (v := .int _ _) rfl rfl rfl ?_ | refine W.nil ?_)
    have hlb : b < hf.next := by omega
    have Xg : Ext H hg := (Xf.put (by omega) hlb _).trans s6.ext
    have Og : OwnB hg H b 1 (.slice pv nv cv xv) _ := ⟨by rw [s6.get, put_same], by rw [s6.next]; exact hlb, O.lo, O5.other (by rw [s6.next]; exact Nat.le_refl _) fun k _ _ hk => by
      rw [s6.get, Heap.get_put, if_neg (fun e => nbv5 (by rw [hk, e]))], nbv5⟩
    exact ⟨k + 1, lessN c1, Xg, rfl, rfl, rfl, rfl, rfl, rfl, c1, _, by rw [take_flat c1]; simpa [List.append_assoc] using Og⟩
  repeat (first | (with_reducible first | refine W.seq ?_ | refine W.block ?_ | refine W.region ?_ | refine W.exit ?_ | refine SeqQ.normal ?_ | refine SeqQ.exit ?_ | refine BlockQ.exit ?_ | refine LoopQ.exit ?_) | refine W.lnS (by assumption) rfl rfl rfl rfl rfl rfl rfl rfl ?_ | refine W.opn rfl op_lss rfl ?_ | refine W.opn (v := .int _ _) rfl rfl rfl ?_ | refine W.opn (v := .ptr _) rfl rfl rfl ?_ | refine W.nil ?_ | refine W.ldk (by assumption) (by (repeat (first | assumption | exact Ext.refl _ | refine Ext.trans ?_ (by assumption))); done) rfl rfl rfl rfl rfl rfl rfl rfl ?_ | refine W.cond (x := false) rfl (fun hc => by cases hc) (fun _ => ?_) | rw [decide_eq_false (by first | assumption | omega)])
  rw [show k = x.routes.length by omega, List.take_length, ← hrA] at O
  refine W.keep6 1 3 4 65 66 67 fun T k1 k3 k4 k65 k66 k67 => ?_
  conv at k1 => rhs; whnf
  conv at k3 => rhs; whnf
  conv at k4 => rhs; whnf
  conv at k65 => rhs; whnf
  conv at k66 => rhs; whnf
  conv at k67 => rhs; whnf
  rw [show T = ((((((T.set 1 (some (T.look 1))).set 3 (some (T.look 3))).set 4 (some (T.look 4))).set 65 (some (T.look 65))).set 66 (some (T.look 66))).set 67 (some (T.look 67))) from rfl, k1, k3, k4, k65, k66, k67]
  clear k1 k3 k4 k65 k66 k67
  refine W.loop (σ := Nat) (fun k tm h' => Ext H h' ∧ tm.look 1 = .ptr (some (h.next, 0)) ∧ tm.look 3 = .ptr (some (b, 0)) ∧ tm.look 4 = .fn 146 [] [.ptr (some (b, 0))] ∧ tm.look 65 = v5 ∧ tm.look 66 = .int .i64 (x.trips.length : Int) ∧ tm.look 67 = .int .i64 (k : Int) ∧ k ≤ x.trips.length ∧ ∃ vo, OwnB h' H b 1 vo ((([x.hz] ++ pA ++ dA ++ rA) ++ (x.trips.take k).flatMap (fun t => [t.frm, t.evr, t.untl])).map Flat.enc)) (fun k => x.trips.length - k) ?_ (s := 0)
    ⟨X, rfl, rfl, rfl, rfl, rfl, rfl, Nat.zero_le _, _, by rw [List.take_zero, List.flatMap_nil, List.append_nil]; exact O⟩
  clear O
  rintro k tm h' ⟨X, w1, w3, w4, w65, w66, w67, hk, vo, O⟩
  obtain ⟨T, rfl⟩ : ∃ T : Tm, tm = ((((((T.set 1 (some (.ptr (some (h.next, 0))))).set 3 (some (.ptr (some (b, 0))))).set 4 (some (.fn 146 [] [.ptr (some (b, 0))]))).set 65 (some (v5))).set 66 (some (.int .i64 (x.trips.length : Int)))).set 67 (some (.int .i64 (k : Int)))) := ⟨tm, (show tm = ((((((tm.set 1 (some (tm.look 1))).set 3 (some (tm.look 3))).set 4 (some (tm.look 4))).set 65 (some (tm.look 65))).set 66 (some (tm.look 66))).set 67 (some (tm.look 67))) by rfl).trans (by rw [w1, w3, w4, w65, w66, w67])⟩
  clear w1 w3 w4 w65 w66 w67
  by_cases c1 : k < x.trips.length
  · have Lb := O.loc
    have hfl := flat_le (l := x.trips) (f := (fun t => [t.frm, t.evr, t.untl])) (k := k + 1)
    rw [take_flat c1] at hfl
    simp only [List.length_append, List.length_cons, List.length_nil] at hfl
    rw [← htA] at hfl
    repeat (first | (with_reducible first | refine W.seq ?_ | refine W.block ?_ | refine W.region ?_ | refine W.skip ?_ | refine SeqQ.normal ?_) | refine W.opn rfl op_lss rfl ?_ | refine W.nil ?_ | refine W.cond (x := true) rfl (fun _ => ?_) (fun hc => by cases hc) | rw [decide_eq_true (by first | assumption | omega)])
    refine W.ixF (by assumption) (by first | assumption | omega) rfl rfl rfl rfl rfl rfl rfl fun i_ o_ L_ => ?_
    repeat (first | (with_reducible first | refine W.region ?_ | refine SeqQ.normal ?_) | refine W.var rfl rfl rfl rfl rfl rfl rfl rfl rfl (by first | rfl | assumption) rfl fun h_ X_ n_ g_ L_ => ?_ | refine W.bs1 rfl rfl rfl rfl fun h_ X_ n_ g_ S_ => ?_ | refine W.opn (v := .ptr _) rfl rfl rfl ?_ | refine W.nil ?_ | refine W.ldk (by assumption) (by (repeat (first | assumption | exact Ext.refl _ | refine Ext.trans ?_ (by assumption))); done) rfl rfl rfl rfl rfl rfl rfl rfl ?_ | refine W.ldw (by assumption) (by (repeat (first | assumption | exact Ext.refl _ | refine Ext.trans ?_ (by assumption))); done) rfl rfl rfl rfl (by first | rfl | assumption) rfl rfl ?_ | refine W.ld0 (by assumption) (by (repeat (first | assumption | exact Ext.refl _ | refine Ext.trans ?_ (by assumption))); done) rfl rfl rfl rfl rfl rfl rfl rfl ?_)
    have S_ : SlG _ 1 _ (([x.trips[k].frm, x.trips[k].evr, x.trips[k].untl] : List Int).map Flat.enc) := S_
    refine W.apst (H := H) (z := 1) (by (repeat (first | assumption | exact Ext.refl _ | refine Ext.trans ?_ (by assumption))); done) (O.ext (by (repeat (first | assumption | exact Ext.refl _ | refine Ext.trans ?_ (by assumption))); done)) S_ rfl rfl rfl rfl rfl rfl rfl rfl rfl rfl rfl rfl (by
      simp only [List.length_map, List.length_append, List.length_cons, List.length_nil]
      show _ * 8 ≤ _
      omega) (fun _ => rfl) rfl (fun _ => rfl) (fun _ => rfl) rfl rfl fun v' h2 X2 O2 _ _ => ?_
    repeat (first | (with_reducible first | refine W.region ?_ | refine SeqQ.normal ?_ | refine BlockQ.normal ?_) | refine W.opn rfl (op_add (by omega) (by omega)) rfl ?_ | refine W.opn (v := .int _ _) rfl rfl rfl ?_ | refine W.nil ?_)
    exact ⟨k + 1, lessN c1, X2, rfl, rfl, rfl, rfl, rfl, rfl, c1, _, by rw [take_flat c1, ← List.append_assoc, map_app]; exact O2⟩
  repeat (first | (with_reducible first | refine W.seq ?_ | refine W.block ?_ | refine W.region ?_ | refine W.exit ?_ | refine SeqQ.normal ?_ | refine SeqQ.exit ?_ | refine BlockQ.exit ?_ | refine LoopQ.exit ?_) | refine W.lnS (by assumption) rfl rfl rfl rfl rfl rfl rfl rfl ?_ | refine W.opn rfl op_lss rfl ?_ | refine W.opn (v := .int _ _) rfl rfl rfl ?_ | refine W.opn (v := .ptr _) rfl rfl rfl ?_ | refine W.nil ?_ | refine W.ldk (by assumption) (by (repeat (first | assumption | exact Ext.refl _ | refine Ext.trans ?_ (by assumption))); done) rfl rfl rfl rfl rfl rfl rfl rfl ?_ | refine W.cond (x := false) rfl (fun hc => by cases hc) (fun _ => ?_) | rw [decide_eq_false (by first | assumption | omega)])
  rw [show k = x.trips.length by omega, List.take_length, ← htA] at O
  refine W.keep6 1 3 4 82 83 84 fun T k1 k3 k4 k82 k83 k84 => ?_
  conv at k1 => rhs; whnf
  conv at k3 => rhs; whnf
  conv at k4 => rhs; whnf
  conv at k82 => rhs; whnf
  conv at k83 => rhs; whnf
  conv at k84 => rhs; whnf
  rw [show T = ((((((T.set 1 (some (T.look 1))).set 3 (some (T.look 3))).set 4 (some (T.look 4))).set 82 (some (T.look 82))).set 83 (some (T.look 83))).set 84 (some (T.look 84))) from rfl, k1, k3, k4, k82, k83, k84]
  clear k1 k3 k4 k82 k83 k84
  refine W.loop (σ := Nat) (fun k tm h' => Ext H h' ∧ tm.look 1 = .ptr (some (h.next, 0)) ∧ tm.look 3 = .ptr (some (b, 0)) ∧ tm.look 4 = .fn 146 [] [.ptr (some (b, 0))] ∧ tm.look 82 = v6 ∧ tm.look 83 = .int .i64 (x.hazards.length : Int) ∧ tm.look 84 = .int .i64 (k : Int) ∧ k ≤ x.hazards.length ∧ ∃ vo, OwnB h' H b 1 vo ((([x.hz] ++ pA ++ dA ++ rA ++ tA) ++ (x.hazards.take k).flatMap (fun h => h.times.nums)).map Flat.enc)) (fun k => x.hazards.length - k) ?_ (s := 0)
    ⟨X, rfl, rfl, rfl, rfl, rfl, rfl, Nat.zero_le _, _, by rw [List.take_zero, List.flatMap_nil, List.append_nil]; exact O⟩
  clear O
  rintro k tm h' ⟨X, w1, w3, w4, w82, w83, w84, hk, vo, O⟩
  obtain ⟨T, rfl⟩ : ∃ T : Tm, tm = ((((((T.set 1 (some (.ptr (some (h.next, 0))))).set 3 (some (.ptr (some (b, 0))))).set 4 (some (.fn 146 [] [.ptr (some (b, 0))]))).set 82 (some (v6))).set 83 (some (.int .i64 (x.hazards.length : Int)))).set 84 (some (.int .i64 (k : Int)))) := ⟨tm, (show tm = ((((((tm.set 1 (some (tm.look 1))).set 3 (some (tm.look 3))).set 4 (some (tm.look 4))).set 82 (some (tm.look 82))).set 83 (some (tm.look 83))).set 84 (some (tm.look 84))) by rfl).trans (by rw [w1, w3, w4, w82, w83, w84])⟩
  clear w1 w3 w4 w82 w83 w84
  by_cases c1 : k < x.hazards.length
  · have Lb := O.loc
    have hfl := flat_le (l := x.hazards) (f := (fun h => h.times.nums)) (k := k + 1)
    rw [take_flat c1] at hfl
    simp only [List.length_append, List.length_cons, List.length_nil] at hfl
    rw [← hhA] at hfl
    have nb2 : idOf vo ≠ [h'.next] := by
      rcases O.own.notIn (Nat.le_refl _) with e | ⟨i, e, hi, _⟩
      · rw [e]; intro h; cases h
      · rw [e]; intro h; exact hi (by simpa using h)
    have blt := O.lt
    repeat (first | (with_reducible first | refine W.seq ?_ | refine W.block ?_ | refine W.region ?_ | refine W.skip ?_ | refine SeqQ.normal ?_) | refine W.opn rfl op_lss rfl ?_ | refine W.nil ?_ | refine W.cond (x := true) rfl (fun _ => ?_) (fun hc => by cases hc) | rw [decide_eq_true (by first | assumption | omega)])
    refine W.ixF (by assumption) (by first | assumption | omega) rfl rfl rfl rfl rfl rfl rfl fun i_ o_ L_ => ?_
    repeat (first | (with_reducible first | refine W.region ?_ | refine SeqQ.normal ?_) | refine W.var rfl rfl rfl rfl rfl rfl rfl rfl rfl (by first | rfl | assumption) rfl fun h_ X_ n_ g_ L_ => ?_ | refine W.opn (v := .ptr _) rfl rfl rfl ?_ | refine W.opn rfl rfl rfl ?_ | refine W.nil ?_ | refine W.ldw (by assumption) (by (repeat (first | assumption | exact Ext.refl _ | refine Ext.trans ?_ (by assumption))); done) rfl rfl rfl rfl (by first | rfl | assumption) rfl rfl ?_ | refine W.ldp (by assumption) (by (repeat (first | assumption | exact Ext.refl _ | refine Ext.trans ?_ (by assumption))); done) rfl rfl rfl rfl rfl rfl rfl ?_)
    refine W.call rfl rfl rfl (addTimes_w (x.hazards[k]).times (X.trans X_) (O.ext X_) (by
      simp only [List.length_append, List.length_cons, List.length_nil]
      omega) fun h3 v3 X3 O3 => ?_)
    repeat (first | (with_reducible first | refine W.region ?_ | refine SeqQ.normal ?_ | refine BlockQ.normal ?_ | refine CallQ.val ?_) | refine W.opn rfl (op_add (by omega) (by omega)) rfl ?_ | refine W.opn (v := .int _ _) rfl rfl rfl ?_ | refine W.nil ?_)
    exact ⟨k + 1, lessN c1, X3, rfl, rfl, rfl, rfl, rfl, rfl, c1, _, by rw [take_flat c1]; simpa [List.append_assoc] using O3⟩
  have Lb := O.loc
  repeat (first | (with_reducible first | refine W.seq ?_ | refine W.region ?_ | refine W.exit ?_ | refine W.ret ?_ | refine SeqQ.normal ?_ | refine SeqQ.exit ?_ | refine BlockQ.exit ?_ | refine LoopQ.exit ?_) | refine W.opn rfl op_lss rfl ?_ | refine W.opn rfl rfl rfl ?_ | refine W.nil ?_ | refine W.ld0 (by assumption) (by (repeat (first | assumption | exact Ext.refl _ | refine Ext.trans ?_ (by assumption))); done) rfl rfl rfl rfl rfl rfl rfl rfl ?_ | refine W.cond (x := false) rfl (fun hc => by cases hc) (fun _ => ?_) | rw [decide_eq_false (by first | assumption | omega)])
  rw [show k = x.hazards.length by omega, List.take_length, ← hhA] at O
  exact q _ _ (XH.trans X) O.own.toSl
end
end Go.Proofs.YtmgpjfnlciapkaaGreatDoor
