/- Worlds of the same content are the same: the whole. No condition but that memory beyond the next number is empty. -/
import Derived.Test.YtmgpjfnlciapkaaGreatDoorXQ6
set_option linter.unusedVariables false
set_option linter.unusedSimpArgs false
namespace Go.Proofs.YtmgpjfnlciapkaaGreatDoor
open Go Go.CM Go.CM.Tt
noncomputable section
set_option maxHeartbeats 16000000
set_option maxRecDepth 100000
theorem world_w {h : Heap} {tm : Tm} {Q : R → Prop} {ca cb : List CV} {w : WorldD} (fr : Fresh h) (ra : Rp.R h ca w) (rb : Rp.R h cb w) (sh : w.short) (q : ∀ h', Ext h h' → Q (.val (.bool true) h')) : W E1 (.call (.fn 12 [] []) [.agg ca, .agg cb]) tm h Q := by
  obtain ⟨a1, a2, a3, a4, a5, a6, a7, a8, a9, a10, a11, rfl, p1, p2, p3, p4, p5, p6, p7, p8, p9, p10, p11⟩ := ra
  obtain ⟨b1, b2, b3, b4, b5, b6, b7, b8, b9, b10, b11, rfl, q1, q2, q3, q4, q5, q6, q7, q8, q9, q10, q11⟩ := rb
  obtain ⟨m1, m2, m3, m4, m5, m6, m7, m8, m9, m10, m11, mr⟩ := sh
  refine W.fn (s := fnOf Tryz.f12) rfl rfl rfl rfl ?_
  repeat (refine W.seq ?_)
  refine W.region ?_
  refine W.box rfl rfl rfl fun H1 X1 n1 g1 L1 => ?_
  refine W.box rfl rfl rfl fun H2 X2 n2 g2 L2 => ?_
  have L1 := L1.ext X2
  have Y2 := X1.trans X2
  repeat (first | (with_reducible first | refine W.seq ?_ | refine W.draws ?_ | refine SeqQ.normal ?_) | refine W.opn (v := .bool _) rfl rfl rfl ?_ | refine W.nil ?_)
  have ds := DX.start (Y2.fr fr)
  repeat (first | refine W.dopn (v := .ptr _) rfl rfl rfl rfl ?_ | refine W.dlp (by assumption) (by assumption) (by (repeat (first | assumption | exact Ext.refl _ | refine Ext.trans ?_ (by assumption))); done) rfl rfl rfl rfl rfl rfl fun r_ h_ ds_ s_ => ?_)
  refine W.dalZ ds_ rfl rfl rfl fun r3 H3 ds3 x3 n3 g3 => ?_
  skip
  refine W.dalZ ds3 rfl rfl rfl fun r4 H4 ds4 x4 n4 g4 => ?_
  skip
  have xx := ds_.x
  have nxx := xx.next
  refine W.dstZ (vs := [a1, a2, a3, a4, a5, a6]) (cs' := [a1, a2, a3, a4, a5, a6]) ds4 (by omega) rfl rfl rfl rfl rfl rfl rfl ((x4.old _ (by omega)).trans g3) rfl fun r5 H5 hr5 s5 => ?_
  skip
  have n5 : H5.next = H4.next := s5.next
  have k5 : ∀ k, k ≠ h_.next → H5.get k = H4.get k := fun k hk => by rw [s5.get, Heap.get_put, if_neg (Ne.symm hk)]
  have g5 : H5.get h_.next = some (.cells [a1, a2, a3, a4, a5, a6] false) := by rw [s5.get, put_same]
  refine W.dst (vs := [b1, b2, b3, b4, b5, b6]) (cs' := [b1, b2, b3, b4, b5, b6]) hr5 rfl rfl rfl rfl rfl rfl rfl ((k5 _ (by omega)).trans g4) rfl fun r6 H6 hr6 s6 => ?_
  repeat (first | refine W.dnil ?_)
  have n6 : H6.next = H5.next := s6.next
  have k6 : ∀ k, k ≠ H3.next → H6.get k = H5.get k := fun k hk => by rw [s6.get, Heap.get_put, if_neg (Ne.symm hk)]
  have g6 : H6.get H3.next = some (.cells [b1, b2, b3, b4, b5, b6] false) := by rw [s6.get, put_same]
  have g5 := (k6 h_.next (by omega)).trans g5
  have Y6 : Ext H2 H6 := Ext.store (Ext.store ((xx.trans x3).trans x4) n5 k5 (by omega) (by omega)) n6 k6 (by omega) (by omega)
  have L5 : LocE H6 h_.next 0 [a1, a2, a3, a4, a5, a6] := ⟨_, _, g5, by omega, rfl⟩
  have L6 : LocE H6 H3.next 0 [b1, b2, b3, b4, b5, b6] := ⟨_, _, g6, by omega, rfl⟩
  have Z6 := Y2.trans Y6
  have L1 := L1.ext Y6
  have L2 := L2.ext Y6
  clear ds ds_ ds3 ds4 hr5 hr6 s5 s6 k5 k6 n5 n6 g1 g2 g3 g4 g5 g6 x3 x4 xx s_ Y6
  refine W.keep4 2 3 5 6 fun T k2 k3 k5 k6 => ?_
  conv at k2 => rhs; whnf
  conv at k3 => rhs; whnf
  conv at k5 => rhs; whnf
  conv at k6 => rhs; whnf
  rw [show T = ((((T.set 2 (some (T.look 2))).set 3 (some (T.look 3))).set 5 (some (T.look 5))).set 6 (some (T.look 6))) from rfl, k2, k3, k5, k6]
  clear k2 k3 k5 k6
  repeat (first | (with_reducible first | refine W.seq ?_ | refine W.region ?_) | refine W.opn (v := .ptr _) rfl rfl rfl ?_ | refine W.ldk (by assumption) (by (repeat (first | assumption | exact Ext.refl _ | refine Ext.trans ?_ (by assumption))); done) rfl rfl rfl rfl rfl rfl rfl rfl ?_)
  refine W.call rfl rfl rfl (same_str (Z6.fr fr) (p1.ext Z6) (q1.ext Z6) m1 fun G1 V1 => ?_)
  have U1 := Z6.trans V1
  refine W.keep5 2 3 5 6 18 fun T k2 k3 k5 k6 k18 => ?_
  conv at k2 => rhs; whnf
  conv at k3 => rhs; whnf
  conv at k5 => rhs; whnf
  conv at k6 => rhs; whnf
  conv at k18 => rhs; whnf
  rw [show T = (((((T.set 2 (some (T.look 2))).set 3 (some (T.look 3))).set 5 (some (T.look 5))).set 6 (some (T.look 6))).set 18 (some (T.look 18))) from rfl, k2, k3, k5, k6, k18]
  clear k2 k3 k5 k6 k18
  have T1 := V1
  repeat (first | refine W.opn (v := .ptr _) rfl rfl rfl ?_ | refine W.opn (v := .bool _) rfl rfl rfl ?_ | refine W.ldk (by assumption) (by (repeat (first | assumption | exact Ext.refl _ | refine Ext.trans ?_ (by assumption))); done) rfl rfl rfl rfl rfl rfl rfl rfl ?_)
  refine W.call rfl rfl rfl (same_str (U1.fr fr) (p2.ext U1) (q2.ext U1) m2 fun G2 V2 => ?_)
  have U2 := U1.trans V2
  refine W.keep6 2 3 5 6 20 25 fun T k2 k3 k5 k6 k20 k25 => ?_
  conv at k2 => rhs; whnf
  conv at k3 => rhs; whnf
  conv at k5 => rhs; whnf
  conv at k6 => rhs; whnf
  conv at k20 => rhs; whnf
  conv at k25 => rhs; whnf
  rw [show T = ((((((T.set 2 (some (T.look 2))).set 3 (some (T.look 3))).set 5 (some (T.look 5))).set 6 (some (T.look 6))).set 20 (some (T.look 20))).set 25 (some (T.look 25))) from rfl, k2, k3, k5, k6, k20, k25]
  clear k2 k3 k5 k6 k20 k25
  have T2 := T1.trans V2
  repeat (first | refine W.opn (v := .ptr _) rfl rfl rfl ?_ | refine W.opn (v := .bool _) rfl rfl rfl ?_ | refine W.ldk (by assumption) (by (repeat (first | assumption | exact Ext.refl _ | refine Ext.trans ?_ (by assumption))); done) rfl rfl rfl rfl rfl rfl rfl rfl ?_)
  refine W.call rfl rfl rfl (same_str (U2.fr fr) (p3.ext U2) (q3.ext U2) m3 fun G3 V3 => ?_)
  have U3 := U2.trans V3
  refine W.keep6 2 3 5 6 28 33 fun T k2 k3 k5 k6 k28 k33 => ?_
  conv at k2 => rhs; whnf
  conv at k3 => rhs; whnf
  conv at k5 => rhs; whnf
  conv at k6 => rhs; whnf
  conv at k28 => rhs; whnf
  conv at k33 => rhs; whnf
  rw [show T = ((((((T.set 2 (some (T.look 2))).set 3 (some (T.look 3))).set 5 (some (T.look 5))).set 6 (some (T.look 6))).set 28 (some (T.look 28))).set 33 (some (T.look 33))) from rfl, k2, k3, k5, k6, k28, k33]
  clear k2 k3 k5 k6 k28 k33
  have T3 := T2.trans V3
  repeat (first | refine W.opn (v := .ptr _) rfl rfl rfl ?_ | refine W.opn (v := .bool _) rfl rfl rfl ?_ | refine W.ldk (by assumption) (by (repeat (first | assumption | exact Ext.refl _ | refine Ext.trans ?_ (by assumption))); done) rfl rfl rfl rfl rfl rfl rfl rfl ?_)
  refine W.call rfl rfl rfl (same_str (U3.fr fr) (p4.ext U3) (q4.ext U3) m4 fun G4 V4 => ?_)
  have U4 := U3.trans V4
  refine W.keep6 2 3 5 6 36 41 fun T k2 k3 k5 k6 k36 k41 => ?_
  conv at k2 => rhs; whnf
  conv at k3 => rhs; whnf
  conv at k5 => rhs; whnf
  conv at k6 => rhs; whnf
  conv at k36 => rhs; whnf
  conv at k41 => rhs; whnf
  rw [show T = ((((((T.set 2 (some (T.look 2))).set 3 (some (T.look 3))).set 5 (some (T.look 5))).set 6 (some (T.look 6))).set 36 (some (T.look 36))).set 41 (some (T.look 41))) from rfl, k2, k3, k5, k6, k36, k41]
  clear k2 k3 k5 k6 k36 k41
  have T4 := T3.trans V4
  repeat (first | refine W.opn (v := .ptr _) rfl rfl rfl ?_ | refine W.opn (v := .bool _) rfl rfl rfl ?_ | refine W.ldk (by assumption) (by (repeat (first | assumption | exact Ext.refl _ | refine Ext.trans ?_ (by assumption))); done) rfl rfl rfl rfl rfl rfl rfl rfl ?_)
  refine W.call rfl rfl rfl (same_str (U4.fr fr) (p5.ext U4) (q5.ext U4) m5 fun G5 V5 => ?_)
  have U5 := U4.trans V5
  refine W.keep6 2 3 5 6 44 49 fun T k2 k3 k5 k6 k44 k49 => ?_
  conv at k2 => rhs; whnf
  conv at k3 => rhs; whnf
  conv at k5 => rhs; whnf
  conv at k6 => rhs; whnf
  conv at k44 => rhs; whnf
  conv at k49 => rhs; whnf
  rw [show T = ((((((T.set 2 (some (T.look 2))).set 3 (some (T.look 3))).set 5 (some (T.look 5))).set 6 (some (T.look 6))).set 44 (some (T.look 44))).set 49 (some (T.look 49))) from rfl, k2, k3, k5, k6, k44, k49]
  clear k2 k3 k5 k6 k44 k49
  have T5 := T4.trans V5
  repeat (first | refine W.opn (v := .ptr _) rfl rfl rfl ?_ | refine W.opn (v := .bool _) rfl rfl rfl ?_ | refine W.ldk (by assumption) (by (repeat (first | assumption | exact Ext.refl _ | refine Ext.trans ?_ (by assumption))); done) rfl rfl rfl rfl rfl rfl rfl rfl ?_)
  refine W.call rfl rfl rfl (same_str (U5.fr fr) (p6.ext U5) (q6.ext U5) m6 fun G6 V6 => ?_)
  have U6 := U5.trans V6
  refine W.keep6 2 3 5 6 52 57 fun T k2 k3 k5 k6 k52 k57 => ?_
  conv at k2 => rhs; whnf
  conv at k3 => rhs; whnf
  conv at k5 => rhs; whnf
  conv at k6 => rhs; whnf
  conv at k52 => rhs; whnf
  conv at k57 => rhs; whnf
  rw [show T = ((((((T.set 2 (some (T.look 2))).set 3 (some (T.look 3))).set 5 (some (T.look 5))).set 6 (some (T.look 6))).set 52 (some (T.look 52))).set 57 (some (T.look 57))) from rfl, k2, k3, k5, k6, k52, k57]
  clear k2 k3 k5 k6 k52 k57
  have T6 := T5.trans V6
  repeat (first | (with_reducible first | refine W.seq ?_ | refine W.region ?_ | refine W.skip ?_ | refine SeqQ.normal ?_) | refine W.opn rfl op_neq rfl ?_ | refine W.opn (v := .ptr _) rfl rfl rfl ?_ | refine W.opn (v := .bool _) rfl rfl rfl ?_ | refine W.nil ?_ | refine W.ldk (by assumption) (by (repeat (first | assumption | exact Ext.refl _ | refine Ext.trans ?_ (by assumption))); done) rfl rfl rfl rfl rfl rfl rfl rfl ?_ | refine W.cond (x := false) rfl (fun hc => by cases hc) (fun _ => ?_) | rw [decide_eq_false (by first | assumption | omega)])
  refine W.call rfl rfl rfl (same_path (U6.fr fr) (p7.ext U6) (q7.ext U6) m7 fun G7 V7 => ?_)
  have U7 := U6.trans V7
  refine W.keep4 2 3 65 70 fun T k2 k3 k65 k70 => ?_
  conv at k2 => rhs; whnf
  conv at k3 => rhs; whnf
  conv at k65 => rhs; whnf
  conv at k70 => rhs; whnf
  rw [show T = ((((T.set 2 (some (T.look 2))).set 3 (some (T.look 3))).set 65 (some (T.look 65))).set 70 (some (T.look 70))) from rfl, k2, k3, k65, k70]
  clear k2 k3 k65 k70
  have S7 := V7
  repeat (first | refine W.opn (v := .ptr _) rfl rfl rfl ?_ | refine W.opn (v := .bool _) rfl rfl rfl ?_ | refine W.ldk (by assumption) (by (repeat (first | assumption | exact Ext.refl _ | refine Ext.trans ?_ (by assumption))); done) rfl rfl rfl rfl rfl rfl rfl rfl ?_)
  refine W.call rfl rfl rfl (same_door (U7.fr fr) (p8.ext U7) (q8.ext U7) m8 fun G8 V8 => ?_)
  have U8 := U7.trans V8
  refine W.keep4 2 3 73 78 fun T k2 k3 k73 k78 => ?_
  conv at k2 => rhs; whnf
  conv at k3 => rhs; whnf
  conv at k73 => rhs; whnf
  conv at k78 => rhs; whnf
  rw [show T = ((((T.set 2 (some (T.look 2))).set 3 (some (T.look 3))).set 73 (some (T.look 73))).set 78 (some (T.look 78))) from rfl, k2, k3, k73, k78]
  clear k2 k3 k73 k78
  have S8 := S7.trans V8
  repeat (first | refine W.opn (v := .ptr _) rfl rfl rfl ?_ | refine W.opn (v := .bool _) rfl rfl rfl ?_ | refine W.ldk (by assumption) (by (repeat (first | assumption | exact Ext.refl _ | refine Ext.trans ?_ (by assumption))); done) rfl rfl rfl rfl rfl rfl rfl rfl ?_)
  refine W.call rfl rfl rfl (same_trip (U8.fr fr) (p10.ext U8) (q10.ext U8) m10 fun G10 V10 => ?_)
  have U10 := U8.trans V10
  refine W.keep4 2 3 81 86 fun T k2 k3 k81 k86 => ?_
  conv at k2 => rhs; whnf
  conv at k3 => rhs; whnf
  conv at k81 => rhs; whnf
  conv at k86 => rhs; whnf
  rw [show T = ((((T.set 2 (some (T.look 2))).set 3 (some (T.look 3))).set 81 (some (T.look 81))).set 86 (some (T.look 86))) from rfl, k2, k3, k81, k86]
  clear k2 k3 k81 k86
  have S10 := S8.trans V10
  repeat (first | refine W.opn (v := .ptr _) rfl rfl rfl ?_ | refine W.opn (v := .bool _) rfl rfl rfl ?_ | refine W.ldk (by assumption) (by (repeat (first | assumption | exact Ext.refl _ | refine Ext.trans ?_ (by assumption))); done) rfl rfl rfl rfl rfl rfl rfl rfl ?_)
  refine W.call rfl rfl rfl (same_haz (U10.fr fr) (p11.ext U10) (q11.ext U10) m11 fun G11 V11 => ?_)
  have U11 := U10.trans V11
  refine W.keep4 2 3 89 94 fun T k2 k3 k89 k94 => ?_
  conv at k2 => rhs; whnf
  conv at k3 => rhs; whnf
  conv at k89 => rhs; whnf
  conv at k94 => rhs; whnf
  rw [show T = ((((T.set 2 (some (T.look 2))).set 3 (some (T.look 3))).set 89 (some (T.look 89))).set 94 (some (T.look 94))) from rfl, k2, k3, k89, k94]
  clear k2 k3 k89 k94
  have S11 := S10.trans V11
  repeat (first | (with_reducible first | refine W.seq ?_ | refine W.block ?_ | refine W.region ?_ | refine W.skip ?_ | refine SeqQ.normal ?_) | refine W.lnS (by assumption) rfl rfl rfl rfl rfl rfl rfl rfl ?_ | refine W.opn rfl op_neq rfl ?_ | refine W.opn (v := .int _ _) rfl rfl rfl ?_ | refine W.opn (v := .ptr _) rfl rfl rfl ?_ | refine W.opn (v := .bool _) rfl rfl rfl ?_ | refine W.nil ?_ | refine W.ldk (by assumption) (by (repeat (first | assumption | exact Ext.refl _ | refine Ext.trans ?_ (by assumption))); done) rfl rfl rfl rfl rfl rfl rfl rfl ?_ | refine W.cond (x := false) rfl (fun hc => by cases hc) (fun _ => ?_) | rw [decide_eq_false (by first | assumption | omega)])
  have ZZ := T6.trans S11
  have L1 := L1.ext ZZ
  have L2 := L2.ext ZZ
  have p9 := p9.ext U11
  have q9 := q9.ext U11
  have fr' := U11.fr fr
  obtain ⟨K, hK⟩ : ∃ K, K = G11 := ⟨_, rfl⟩
  rw [← hK] at L1 L2 p9 q9 fr' U11 ⊢
  refine W.keep3 2 3 7 fun T k2 k3 k7 => ?_
  conv at k2 => rhs; whnf
  conv at k3 => rhs; whnf
  conv at k7 => rhs; whnf
  rw [show T = (((T.set 2 (some (T.look 2))).set 3 (some (T.look 3))).set 7 (some (T.look 7))) from rfl, k2, k3, k7]
  clear k2 k3 k7
  refine W.loop (σ := Nat) (fun k tm h' => Ext K h' ∧ tm.look 2 = .ptr (some (h.next, 0)) ∧ tm.look 3 = .ptr (some (H1.next, 0)) ∧ tm.look 7 = .int .i64 (k : Int) ∧ k ≤ w.routes.length) (fun k => w.routes.length - k) ?_ (s := 0) ⟨Ext.refl _, rfl, rfl, rfl, Nat.zero_le _⟩
  rintro k tm h' ⟨X, w2, w3, w7, hk⟩
  obtain ⟨T, rfl⟩ : ∃ T : Tm, tm = (((T.set 2 (some (.ptr (some (h.next, 0))))).set 3 (some (.ptr (some (H1.next, 0))))).set 7 (some (.int .i64 (k : Int)))) := ⟨tm, (show tm = (((tm.set 2 (some (tm.look 2))).set 3 (some (tm.look 3))).set 7 (some (tm.look 7))) by rfl).trans (by rw [w2, w3, w7])⟩
  clear w2 w3 w7
  by_cases c1 : k < w.routes.length
  · repeat (first | (with_reducible first | refine W.seq ?_ | refine W.block ?_ | refine W.region ?_ | refine W.draws ?_ | refine W.skip ?_ | refine SeqQ.normal ?_) | refine W.lnS (by assumption) rfl rfl rfl rfl rfl rfl rfl rfl ?_ | refine W.opn rfl op_lss rfl ?_ | refine W.opn (v := .int _ _) rfl rfl rfl ?_ | refine W.opn (v := .ptr _) rfl rfl rfl ?_ | refine W.nil ?_ | refine W.ldk (by assumption) (by (repeat (first | assumption | exact Ext.refl _ | refine Ext.trans ?_ (by assumption))); done) rfl rfl rfl rfl rfl rfl rfl rfl ?_ | refine W.cond (x := true) rfl (fun _ => ?_) (fun hc => by cases hc) | rw [decide_eq_true (by first | assumption | omega)])
    have ds := DX.start (X.fr fr')
    repeat (first | refine W.dopn (v := .int _ _) rfl rfl rfl rfl ?_ | refine W.dopn (v := .ptr _) rfl rfl rfl rfl ?_ | refine W.dlk (by assumption) (by assumption) (by (repeat (first | assumption | exact Ext.refl _ | refine Ext.trans ?_ (by assumption))); done) rfl rfl rfl rfl rfl rfl rfl fun r_ h_ ds_ s_ => ?_)
    refine W.dixR p9 c1 rfl rfl rfl rfl rfl rfl rfl fun i1 o1 e1 Le1 re1 => ?_
    have hl1 := Rp.len re1
    repeat (first | refine W.dopn (v := .int _ _) rfl rfl rfl rfl ?_ | refine W.dopn (v := .ptr _) rfl rfl rfl rfl ?_ | refine W.dlw (by assumption) (by assumption) (by (repeat (first | assumption | exact Ext.refl _ | refine Ext.trans ?_ (by assumption))); done) rfl rfl rfl rfl (by first | rfl | assumption) rfl fun r_ h_ ds_ s_ => ?_ | refine W.dlk (by assumption) (by assumption) (by (repeat (first | assumption | exact Ext.refl _ | refine Ext.trans ?_ (by assumption))); done) rfl rfl rfl rfl rfl rfl rfl fun r_ h_ ds_ s_ => ?_)
    clear ds
    refine W.dixR q9 c1 rfl rfl rfl rfl rfl rfl rfl fun i2 o2 e2 Le2 re2 => ?_
    have hl2 := Rp.len re2
    repeat (first | refine W.dlw (by assumption) (by assumption) (by (repeat (first | assumption | exact Ext.refl _ | refine Ext.trans ?_ (by assumption))); done) rfl rfl rfl rfl (by first | rfl | assumption) rfl fun r_ h_ ds_ s_ => ?_)
    have xx := ds_.x
    have nxx := xx.next
    obtain ⟨c1', c2', c3', rfl, pa1, pa2, pa3⟩ := re1
    obtain ⟨d1', d2', d3', rfl, qa1, qa2, qa3⟩ := re2
    refine W.dalZ ds_ rfl rfl rfl fun r3 J3 ds3 x3 n3 g3 => ?_
    skip
    refine W.dalZ ds3 rfl rfl rfl fun r4 J4 ds4 x4 n4 g4 => ?_
    skip
    refine W.dstZ (vs := [c1', c2', c3']) (cs' := [c1', c2', c3']) ds4 (by omega) rfl rfl rfl rfl rfl rfl rfl ((x4.old _ (by omega)).trans g3) rfl fun r5 J5 hr5 s5 => ?_
    skip
    have n5 : J5.next = J4.next := s5.next
    have k5 : ∀ k, k ≠ h_.next → J5.get k = J4.get k := fun k hk => by rw [s5.get, Heap.get_put, if_neg (Ne.symm hk)]
    have g5 : J5.get h_.next = some (.cells [c1', c2', c3'] false) := by rw [s5.get, put_same]
    refine W.dst (vs := [d1', d2', d3']) (cs' := [d1', d2', d3']) hr5 rfl rfl rfl rfl rfl rfl rfl ((k5 _ (by omega)).trans g4) rfl fun r6 J6 hr6 s6 => ?_
    repeat (first | refine W.dnil ?_)
    have n6 : J6.next = J5.next := s6.next
    have k6 : ∀ k, k ≠ J3.next → J6.get k = J5.get k := fun k hk => by rw [s6.get, Heap.get_put, if_neg (Ne.symm hk)]
    have g6 : J6.get J3.next = some (.cells [d1', d2', d3'] false) := by rw [s6.get, put_same]
    have g5 := (k6 h_.next (by omega)).trans g5
    have Y6 : Ext h' J6 := Ext.store (Ext.store ((xx.trans x3).trans x4) n5 k5 (by omega) (by omega)) n6 k6 (by omega) (by omega)
    have La : LocE J6 h_.next 0 [c1', c2', c3'] := ⟨_, _, g5, by omega, rfl⟩
    have Lb : LocE J6 J3.next 0 [d1', d2', d3'] := ⟨_, _, g6, by omega, rfl⟩
    have Z := X.trans Y6
    have mm := mr _ (List.getElem_mem c1)
    clear ds_ ds3 ds4 hr5 hr6 s5 s6 k5 k6 g3 g4 g5 g6 xx x3 x4 Le1 Le2
    refine W.keep5 2 3 7 8 9 fun T k2 k3 k7 k8 k9 => ?_
    conv at k2 => rhs; whnf
    conv at k3 => rhs; whnf
    conv at k7 => rhs; whnf
    conv at k8 => rhs; whnf
    conv at k9 => rhs; whnf
    rw [show T = (((((T.set 2 (some (T.look 2))).set 3 (some (T.look 3))).set 7 (some (T.look 7))).set 8 (some (T.look 8))).set 9 (some (T.look 9))) from rfl, k2, k3, k7, k8, k9]
    clear k2 k3 k7 k8 k9
    repeat (first | (with_reducible first | refine W.seq ?_ | refine W.region ?_) | refine W.opn (v := .ptr _) rfl rfl rfl ?_ | refine W.ldk (by assumption) (by (repeat (first | assumption | exact Ext.refl _ | refine Ext.trans ?_ (by assumption))); done) rfl rfl rfl rfl rfl rfl rfl rfl ?_)
    refine W.call rfl rfl rfl (same_nt (Z.fr fr') (pa1.ext Z) (qa1.ext Z) mm.1 fun J7 W7 => ?_)
    have Z7 := Z.trans W7
    refine W.keep6 2 3 7 8 9 127 fun T k2 k3 k7 k8 k9 k127 => ?_
    conv at k2 => rhs; whnf
    conv at k3 => rhs; whnf
    conv at k7 => rhs; whnf
    conv at k8 => rhs; whnf
    conv at k9 => rhs; whnf
    conv at k127 => rhs; whnf
    rw [show T = ((((((T.set 2 (some (T.look 2))).set 3 (some (T.look 3))).set 7 (some (T.look 7))).set 8 (some (T.look 8))).set 9 (some (T.look 9))).set 127 (some (T.look 127))) from rfl, k2, k3, k7, k8, k9, k127]
    clear k2 k3 k7 k8 k9 k127
    repeat (first | refine W.opn (v := .ptr _) rfl rfl rfl ?_ | refine W.opn (v := .bool _) rfl rfl rfl ?_ | refine W.ldk (by assumption) (by (repeat (first | assumption | exact Ext.refl _ | refine Ext.trans ?_ (by assumption))); done) rfl rfl rfl rfl rfl rfl rfl rfl ?_)
    refine W.call rfl rfl rfl (same_int (Z7.fr fr') (pa2.ext Z7) (qa2.ext Z7) mm.2.1 fun J8 W8 => ?_)
    have Z8 := Z7.trans W8
    have W8' := W7.trans W8
    refine W.keep7 2 3 7 8 9 129 134 fun T k2 k3 k7 k8 k9 k129 k134 => ?_
    conv at k2 => rhs; whnf
    conv at k3 => rhs; whnf
    conv at k7 => rhs; whnf
    conv at k8 => rhs; whnf
    conv at k9 => rhs; whnf
    conv at k129 => rhs; whnf
    conv at k134 => rhs; whnf
    rw [show T = (((((((T.set 2 (some (T.look 2))).set 3 (some (T.look 3))).set 7 (some (T.look 7))).set 8 (some (T.look 8))).set 9 (some (T.look 9))).set 129 (some (T.look 129))).set 134 (some (T.look 134))) from rfl, k2, k3, k7, k8, k9, k129, k134]
    clear k2 k3 k7 k8 k9 k129 k134
    repeat (first | refine W.opn (v := .ptr _) rfl rfl rfl ?_ | refine W.opn (v := .bool _) rfl rfl rfl ?_ | refine W.ldk (by assumption) (by (repeat (first | assumption | exact Ext.refl _ | refine Ext.trans ?_ (by assumption))); done) rfl rfl rfl rfl rfl rfl rfl rfl ?_)
    refine W.call rfl rfl rfl (same_int (Z8.fr fr') (pa3.ext Z8) (qa3.ext Z8) mm.2.2 fun J9 W9 => ?_)
    refine W.keep5 2 3 7 137 142 fun T k2 k3 k7 k137 k142 => ?_
    conv at k2 => rhs; whnf
    conv at k3 => rhs; whnf
    conv at k7 => rhs; whnf
    conv at k137 => rhs; whnf
    conv at k142 => rhs; whnf
    rw [show T = (((((T.set 2 (some (T.look 2))).set 3 (some (T.look 3))).set 7 (some (T.look 7))).set 137 (some (T.look 137))).set 142 (some (T.look 142))) from rfl, k2, k3, k7, k137, k142]
    clear k2 k3 k7 k137 k142
    repeat (first | (with_reducible first | refine W.region ?_ | refine W.skip ?_ | refine SeqQ.normal ?_ | refine BlockQ.normal ?_) | refine W.opn rfl (op_add (by omega) (by omega)) rfl ?_ | refine W.opn (v := .int _ _) rfl rfl rfl ?_ | refine W.opn (v := .bool _) rfl rfl rfl ?_ | refine W.nil ?_ | refine W.cond (x := false) rfl (fun hc => by cases hc) (fun _ => ?_))
    exact ⟨k + 1, lessN c1, Z8.trans W9, rfl, rfl, rfl, c1⟩
  · repeat (first | (with_reducible first | refine W.seq ?_ | refine W.region ?_ | refine W.exit ?_ | refine W.ret ?_ | refine SeqQ.normal ?_ | refine SeqQ.exit ?_ | refine BlockQ.exit ?_ | refine LoopQ.exit ?_) | refine W.lnS (by assumption) rfl rfl rfl rfl rfl rfl rfl rfl ?_ | refine W.opn rfl op_lss rfl ?_ | refine W.opn (v := .int _ _) rfl rfl rfl ?_ | refine W.opn (v := .ptr _) rfl rfl rfl ?_ | refine W.opn (v := .bool _) rfl rfl rfl ?_ | refine W.nil ?_ | refine W.ldk (by assumption) (by (repeat (first | assumption | exact Ext.refl _ | refine Ext.trans ?_ (by assumption))); done) rfl rfl rfl rfl rfl rfl rfl rfl ?_ | refine W.cond (x := false) rfl (fun hc => by cases hc) (fun _ => ?_) | rw [decide_eq_false (by first | assumption | omega)])
    exact q _ (U11.trans X)
end
end Go.Proofs.YtmgpjfnlciapkaaGreatDoor
