/- Without one of its last things a sheet holds together, with one told twice it does not: the law's own function. No condition but that the table of spaces lies where it does and memory beyond the next number is empty. -/
import Derived.Test.YtmgpjfnlciapkaaDoorYZ
import Derived.Test.YtmgpjfnlciapkaaDoorZC
import Derived.Test.YtmgpjfnlciapkaaDoorXQ6
namespace Go.Proofs.YtmgpjfnlciapkaaDoor
set_option linter.unusedVariables false
set_option linter.unusedSimpArgs false
open Go Go.CM Go.CM.Tt
noncomputable section
set_option maxHeartbeats 40000000
set_option maxRecDepth 100000

theorem eq_wr (d : WrongD) : eqT E1 20 43 (.agg d.enc) (.agg d.enc) = some true := by
  have e : ∀ a : Int, intEq a a = true := fun a => by rw [intEq_eq]; simp
  have f : ∀ (t : Nat) (a : Int), E1.ty t = some ⟨.int .i64, 1, 8, [.int .i64 0], false, false, []⟩ → eqT E1 19 t (.int .i64 a) (.int .i64 a) = some true := fun t a ht => by
    show (match E1.ty t with | some s => eqK E1 (eqT E1 18) s (.int .i64 a) (.int .i64 a) | none => none) = some true
    rw [ht]
    show some (intEq a a) = some true
    rw [e]
  have f1 := f 41 d.err rfl
  have f2 := f 3 d.kind rfl
  have f3 := f 3 d.pos rfl
  show (match eqT E1 19 41 (.int .i64 d.err) (.int .i64 d.err) with | some true => eqFields E1 (eqT E1 19) [(3, 1), (3, 2)] [.int .i64 d.err, .int .i64 d.kind, .int .i64 d.pos] [.int .i64 d.err, .int .i64 d.kind, .int .i64 d.pos] | some false => some false | none => none) = some true
  rw [f1]
  show (match eqT E1 19 3 (.int .i64 d.kind) (.int .i64 d.kind) with | some true => eqFields E1 (eqT E1 19) [(3, 2)] [.int .i64 d.err, .int .i64 d.kind, .int .i64 d.pos] [.int .i64 d.err, .int .i64 d.kind, .int .i64 d.pos] | some false => some false | none => none) = some true
  rw [f2]
  show (match eqT E1 19 3 (.int .i64 d.pos) (.int .i64 d.pos) with | some true => eqFields E1 (eqT E1 19) [] [.int .i64 d.err, .int .i64 d.kind, .int .i64 d.pos] [.int .i64 d.err, .int .i64 d.kind, .int .i64 d.pos] | some false => some false | none => none) = some true
  rw [f3]
  rfl
theorem op_wr {d : WrongD} {h : Heap} : withH h ((eqT E1 20 43 (.agg d.enc) (.agg d.enc)).map .bool) = some (.bool true, h) := by rw [eq_wr]; rfl
theorem less_w {h : Heap} {tm : Tm} {cs : List CV} {x : SheetD} (r : Rp.R h cs x) (rh : RH h) (fr : Fresh h) (kind at' : Int) : W E1 (.call (.fn 3 [] []) [.agg cs, .int .i64 kind, .int .i64 at']) tm h (fun r => ∃ h', r = .val (.bool true) h') := by
  have r0 := r
  obtain ⟨v1, v2, v3, v4, v5, v6, rfl, s1, s2, s3, s4, s5, s6⟩ := r
  refine W.fn (s := fnOf Tryd.f3) rfl rfl rfl rfl ?_
  repeat (refine W.seq ?_)
  refine W.region ?_
  refine W.box rfl rfl rfl fun H1 X1 n1 g1 L1 => ?_
  repeat (first | (with_reducible first | refine W.seq ?_ | refine W.region ?_ | refine SeqQ.normal ?_) | refine W.opn (v := .bool _) rfl rfl rfl ?_ | refine W.nil ?_)
  refine W.call rfl rfl rfl (W.known rfl (rh.ext X1).1 ?_)
  repeat (first | (with_reducible first | refine W.seq ?_ | refine W.region ?_ | refine W.skip ?_ | refine SeqQ.normal ?_ | refine CallQ.val ?_) | refine W.opn (v := .bool _) rfl rfl rfl ?_ | refine W.nil ?_ | refine W.ldw (by assumption) (by first | assumption | exact Ext.refl _ | ((repeat (first | assumption | refine Ext.trans ?_ (by assumption))); done)) rfl rfl rfl rfl (by first | rfl | assumption) rfl rfl ?_ | refine W.cond (x := false) rfl (fun hc => by cases hc) (fun _ => ?_))
  refine W.call rfl rfl rfl (lightSheet_w (Rp.ext X1 r0) fun H2 b X2 hb => ?_)
  have Y2 := X1.trans X2
  have L2 := L1.ext X2
  cases b
  · repeat (first | (with_reducible first | refine W.seq ?_ | refine W.region ?_ | refine W.ret ?_ | refine SeqQ.normal ?_ | refine SeqQ.ret ?_ | refine CallQ.val ?_) | refine W.opn (v := .bool _) rfl rfl rfl ?_ | refine W.nil ?_ | refine W.cond (x := true) rfl (fun _ => ?_) (fun hc => by cases hc))
    exact ⟨_, rfl⟩
  have li := hb.1 rfl
  refine W.keep5 1 2 3 6 22 fun T k1 k2 k3 k6 k22 => ?_
  conv at k1 => rhs; whnf
  conv at k2 => rhs; whnf
  conv at k3 => rhs; whnf
  conv at k6 => rhs; whnf
  conv at k22 => rhs; whnf
  rw [show T = (((((T.set 1 (some (T.look 1))).set 2 (some (T.look 2))).set 3 (some (T.look 3))).set 6 (some (T.look 6))).set 22 (some (T.look 22))) from rfl, k1, k2, k3, k6, k22]
  clear k1 k2 k3 k6 k22
  clear hb L1
  repeat (first | (with_reducible first | refine W.seq ?_ | refine W.region ?_ | refine W.skip ?_ | refine SeqQ.normal ?_) | refine W.opn (v := .bool _) rfl rfl rfl ?_ | refine W.nil ?_ | refine W.ldw (by assumption) (by first | assumption | exact Ext.refl _ | ((repeat (first | assumption | refine Ext.trans ?_ (by assumption))); done)) rfl rfl rfl rfl (by first | rfl | assumption) rfl rfl ?_ | refine W.cond (x := false) rfl (fun hc => by cases hc) (fun _ => ?_))
  refine W.call rfl rfl rfl (make_w (Rp.ext Y2 r0) (rh.ext Y2) (Y2.fr fr) li.slim fun H3 c3 X3 r3 => ?_)
  obtain ⟨u1, u2, u3, u4, u5, u6, u7, u8, u9, u10, u11, rfl, _⟩ := r3
  have Y3 := Y2.trans X3
  have L3 := L2.ext X3
  refine W.keep5 1 2 3 6 26 fun T k1 k2 k3 k6 k26 => ?_
  conv at k1 => rhs; whnf
  conv at k2 => rhs; whnf
  conv at k3 => rhs; whnf
  conv at k6 => rhs; whnf
  conv at k26 => rhs; whnf
  rw [show T = (((((T.set 1 (some (T.look 1))).set 2 (some (T.look 2))).set 3 (some (T.look 3))).set 6 (some (T.look 6))).set 26 (some (T.look 26))) from rfl, k1, k2, k3, k6, k26]
  clear k1 k2 k3 k6 k26
  clear L2
  repeat (first | refine W.al rfl rfl rfl fun h_ X_ n_ g_ L_ => ?_ | refine W.opn (v := .agg _) rfl rfl rfl ?_ | refine W.opn (v := .tup _) rfl rfl rfl ?_)
  rename_i H4 X4 n4 g4 L4
  clear L4 L_
  refine W.stn (vs := [.int .i64 x.make.1.hz, u1, u2, u3, u4, u5, u6, u7, u8, u9, u10, u11]) (cs' := [.int .i64 x.make.1.hz, u1, u2, u3, u4, u5, u6, u7, u8, u9, u10, u11]) rfl rfl rfl rfl rfl rfl ((X_.old H3.next (by omega)).trans g4) rfl fun H5 n5 g5 k5 => ?_
  refine W.stn (vs := x.make.2.enc) (cs' := x.make.2.enc) rfl rfl rfl rfl rfl rfl ((k5 H4.next (by omega)).trans g_) rfl fun H6 n6 g6 k6 => ?_
  have L6 : LocE H6 H4.next 0 x.make.2.enc := ⟨_, _, g6, by omega, rfl⟩
  have Y6 : Ext H3 H6 := Ext.store (Ext.store (X4.trans X_) n5 k5 (by omega) (by omega)) n6 k6 (by omega) (by omega)
  have L1 := L3.ext Y6
  have Z6 := Y3.trans Y6
  clear g4 X4 X_ g_ n_ g5 k5 n5 g6 k6 n6 L3
  by_cases e0 : ¬ x.make.2.err = 0
  · repeat (first | (with_reducible first | refine W.seq ?_ | refine W.region ?_ | refine W.ret ?_ | refine SeqQ.normal ?_ | refine SeqQ.ret ?_) | refine W.opn rfl op_neq rfl ?_ | refine W.opn (v := .ptr _) rfl rfl rfl ?_ | refine W.opn (v := .bool _) rfl rfl rfl ?_ | refine W.nil ?_ | refine W.ldk (by assumption) (by first | assumption | exact Ext.refl _ | ((repeat (first | assumption | refine Ext.trans ?_ (by assumption))); done)) rfl rfl rfl rfl rfl rfl rfl rfl ?_ | refine W.cond (x := true) rfl (fun _ => ?_) (fun hc => by cases hc) | rw [decide_eq_true (by first | assumption | omega)])
    exact ⟨_, rfl⟩
  have e : x.make.2.err = 0 := Decidable.not_not.1 e0
  clear e0
  have fit := fit_of_make e
  repeat (first | (with_reducible first | refine W.seq ?_ | refine W.region ?_ | refine W.draws ?_ | refine W.skip ?_ | refine SeqQ.normal ?_) | refine W.opn rfl op_neq rfl ?_ | refine W.opn (v := .ptr _) rfl rfl rfl ?_ | refine W.nil ?_ | refine W.ldk (by assumption) (by first | assumption | exact Ext.refl _ | ((repeat (first | assumption | refine Ext.trans ?_ (by assumption))); done)) rfl rfl rfl rfl rfl rfl rfl rfl ?_ | refine W.cond (x := false) rfl (fun hc => by cases hc) (fun _ => ?_) | rw [decide_eq_false (by first | assumption | omega)])
  refine W.keep3 1 2 3 fun T k1 k2 k3 => ?_
  conv at k1 => rhs; whnf
  conv at k2 => rhs; whnf
  conv at k3 => rhs; whnf
  rw [show T = (((T.set 1 (some (T.look 1))).set 2 (some (T.look 2))).set 3 (some (T.look 3))) from rfl, k1, k2, k3]
  clear k1 k2 k3
  clear L6
  have ds := DX.start (Z6.fr fr)
  repeat (first | refine W.dlw (by assumption) (by assumption) (by first | assumption | exact Ext.refl _ | ((repeat (first | assumption | refine Ext.trans ?_ (by assumption))); done)) rfl rfl rfl rfl (by first | rfl | assumption) rfl fun r_ h_ ds_ s_ => ?_)
  have X7 := ds_.x
  have Z7 := Z6.trans X7
  refine W.dcallZ ds_ rfl rfl rfl rfl (ownSheet_w (Rp.ext Z7 r0) (Z7.fr fr) fit.ok.1 li.slim fun G1 a0 a1 a2 a3 ar a5 a6 F1 O1 => DZ.val F1 fun q1 G1' ds1 t1 => ?_)
  have O1 := O1.ext t1.ext
  clear ds_ ds
  repeat (first | refine W.dlw (by assumption) (by assumption) (by first | assumption | exact Ext.refl _ | ((repeat (first | assumption | refine Ext.trans ?_ (by assumption))); done)) rfl rfl rfl rfl (by first | rfl | assumption) rfl fun r_ h_ ds_ s_ => ?_)
  obtain ⟨N2, rfl⟩ : ∃ N2, N2 = h_ := ⟨_, rfl⟩
  have O1 := O1.ext s_.ext
  have X8 := ds_.x
  have ZN := Z6.trans X8
  have L1 := L1.ext X8
  refine W.dcallZ ds_ rfl rfl rfl rfl (ownSheet_w (Rp.ext ZN r0) (ZN.fr fr) fit.ok.1 li.slim fun G2 b0 b1 b2 b3 br b5 b6 F2 O2 => DZ.val F2 fun q2 G2' ds2 t2 => ?_)
  have EN := F2.trans t2.ext
  have O2 := O2.ext t2.ext
  have nEN := EN.next
  clear ds_ ds1
  skip
  refine W.dalZ ds2 rfl rfl rfl fun q3 G3 ds3 x3 n3 g3 => ?_
  skip
  refine W.dalZ ds3 rfl rfl rfl fun q4 G4 ds4 x4 n4 g4 => ?_
  skip
  have x34 := x3.trans x4
  refine W.dst (vs := [a0, a1, a2, a3, ar, a5, a6]) (cs' := [a0, a1, a2, a3, ar, a5, a6]) ds4.hri rfl rfl rfl rfl rfl rfl rfl ((x4.old G2'.next (by omega)).trans g3) rfl fun q5 G5 hr5 t5 => ?_
  skip
  have n5 : G5.next = G4.next := t5.next
  have k5 : ∀ k, k ≠ G2'.next → G5.get k = G4.get k := fun k hk => by rw [t5.get, Heap.get_put, if_neg (Ne.symm hk)]
  have g5 : G5.get G2'.next = some (.cells [a0, a1, a2, a3, ar, a5, a6] false) := by rw [t5.get, put_same]
  refine W.dst (vs := [b0, b1, b2, b3, br, b5, b6]) (cs' := [b0, b1, b2, b3, br, b5, b6]) hr5 rfl rfl rfl rfl rfl rfl rfl ((k5 G3.next (by omega)).trans g4) rfl fun q6 G6 hr6 t6 => ?_
  repeat (first | refine W.dnil ?_)
  have n6 : G6.next = G5.next := t6.next
  have k6 : ∀ k, k ≠ G3.next → G6.get k = G5.get k := fun k hk => by rw [t6.get, Heap.get_put, if_neg (Ne.symm hk)]
  have g6 : G6.get G3.next = some (.cells [b0, b1, b2, b3, br, b5, b6] false) := by rw [t6.get, put_same]
  have g5 := (k6 G2'.next (by omega)).trans g5
  have x26 : Ext G2' G6 := Ext.store (Ext.store x34 n5 k5 (by omega) (by omega)) n6 k6 (by omega) (by omega)
  obtain ⟨y9, hy9⟩ : ∃ y9, y9 = G2'.next := ⟨_, rfl⟩
  obtain ⟨z9, hz9⟩ : ∃ z9, z9 = G3.next := ⟨_, rfl⟩
  obtain ⟨wq, hw9⟩ : ∃ wq, wq = G6.next := ⟨_, rfl⟩
  have e9 : z9 = y9 + 1 := by omega
  have e8 : wq = y9 + 2 := by omega
  rw [← hy9] at g5 ⊢
  rw [← hz9] at g6 ⊢
  refine W.keep5 1 2 3 9 10 fun T k1 k2 k3 k9 k10 => ?_
  conv at k1 => rhs; whnf
  conv at k2 => rhs; whnf
  conv at k3 => rhs; whnf
  conv at k9 => rhs; whnf
  conv at k10 => rhs; whnf
  rw [show T = (((((T.set 1 (some (T.look 1))).set 2 (some (T.look 2))).set 3 (some (T.look 3))).set 9 (some (T.look 9))).set 10 (some (T.look 10))) from rfl, k1, k2, k3, k9, k10]
  clear k1 k2 k3 k9 k10
  clear ds2 ds3 ds4 hr5 hr6 t5 t6 n5 k5 n6 k6 g3 g4 x3 x4 x34 n3 n4
  repeat (first | (with_reducible first | refine W.seq ?_ | refine W.region ?_ | refine SeqQ.normal ?_) | refine W.var rfl rfl rfl rfl rfl rfl rfl rfl rfl (by first | rfl | assumption) rfl fun h_ X_ n_ g_ L_ => ?_ | refine W.opn (v := .int _ _) rfl rfl rfl ?_ | refine W.opn (v := .agg _) rfl rfl rfl ?_ | refine W.nil ?_)
  obtain ⟨K, rfl⟩ : ∃ K, K = h_ := ⟨_, rfl⟩
  have g5 := (X_.old y9 (by omega)).trans g5
  have g6 := (X_.old z9 (by omega)).trans g6
  have g9 : K.get wq = some (.cells [.int .i64 0, .int .i64 0, .int .i64 0] false) := by rw [hw9]; exact g_
  have EG : Ext G2' K := x26.trans X_
  have ENK : Ext N2 K := EN.trans EG
  have ZK : Ext h K := ZN.trans ENK
  have nK : K.next = wq + 1 := by omega
  have I3 := OwnR.ids O2.o3
  have I5 := OwnR.ids O2.o5
  have I6 := OwnR.ids O2.o6
  rw [← hw9]
  rw [← hy9] at I3 I5 I6
  clear L_ g_
  refine W.call rfl rfl rfl (pick_w kind 3 (by omega) (by omega) fun kd hkd => ?_)
  skip
  refine W.nil ?_
  refine SeqQ.normal ?_
  refine W.cutB (fun tm' h' => tm'.look 9 = .ptr (some (y9, 0)) ∧ tm'.look 10 = .ptr (some (z9, 0)) ∧ tm'.look 11 = .ptr (some (wq, 0)) ∧ Ext h h' ∧ ∃ ys zs y z want, LocE h' y9 0 ys ∧ Rp.R h' ys y ∧ LocE h' z9 0 zs ∧ Rp.R h' zs z ∧ LocE h' wq 0 (WrongD.enc want) ∧ SheetD.slim y ∧ SheetD.slim z ∧ y.make.2 = Wrong0 ∧ z.make.2 = want) ?_ ?_
  · have lis := li
    obtain ⟨l1, l2, l3, l4, l5, l6, _⟩ := lis
    refine W.keep6 2 3 9 10 11 38 fun T k2 k3 k9 k10 k11 k38 => ?_
    conv at k2 => rhs; whnf
    conv at k3 => rhs; whnf
    conv at k9 => rhs; whnf
    conv at k10 => rhs; whnf
    conv at k11 => rhs; whnf
    conv at k38 => rhs; whnf
    rw [show T = ((((((T.set 2 (some (T.look 2))).set 3 (some (T.look 3))).set 9 (some (T.look 9))).set 10 (some (T.look 10))).set 11 (some (T.look 11))).set 38 (some (T.look 38))) from rfl, k2, k3, k9, k10, k11, k38]
    clear k2 k3 k9 k10 k11 k38
    rcases kd with _ | _ | _ | kd
    · by_cases c : 0 < x.trips.length
      · repeat (first | (with_reducible first | refine W.seq ?_ | refine W.block ?_ | refine W.region ?_ | refine SeqQ.normal ?_) | refine W.lnS (by assumption) rfl rfl rfl rfl rfl rfl rfl rfl ?_ | refine W.opn rfl op_lss rfl ?_ | refine W.opn rfl op_eql rfl ?_ | refine W.opn (v := .int _ _) rfl rfl rfl ?_ | refine W.opn (v := .ptr _) rfl rfl rfl ?_ | refine W.opn (v := .bool _) rfl rfl rfl ?_ | refine W.nil ?_ | refine W.ldk (by assumption) (by first | assumption | exact Ext.refl _ | ((repeat (first | assumption | refine Ext.trans ?_ (by assumption))); done)) rfl rfl rfl rfl rfl rfl rfl rfl ?_ | refine W.cond (x := true) rfl (fun _ => ?_) (fun hc => by cases hc) | rw [decide_eq_true (by first | assumption | omega)])
        refine W.call rfl rfl rfl (pick_w at' x.trips.length (by omega) (by omega) fun k hk => ?_)
        repeat (first | (with_reducible first | refine W.seq ?_ | refine W.draws ?_ | refine SeqQ.normal ?_ | refine CallQ.val ?_) | refine W.opn (v := .int _ _) rfl rfl rfl ?_ | refine W.nil ?_)
        have ds := DX.start (ZK.fr fr)
        repeat (first | refine W.dopn (v := .int _ _) rfl rfl rfl rfl ?_ | refine W.dopn (v := .ptr _) rfl rfl rfl rfl ?_ | refine W.dlk (by assumption) (by assumption) (by first | assumption | exact Ext.refl _ | ((repeat (first | assumption | refine Ext.trans ?_ (by assumption))); done)) rfl rfl rfl rfl rfl rfl rfl fun r_ h_ ds_ s_ => ?_)
        refine W.dslu (Sl.to_map Flat.iff s5) (k := k) (by rw [List.length_map]; omega) rfl rfl rfl rfl rfl rfl rfl fun p1 sp1 => ?_
        have sp1 : Sl h p1 (x.trips.take k) := Sl.of_map Flat.iff (by rw [List.map_take]; exact sp1)
        skip
        have XA := ds_.x
        refine W.dcallZ ds_ rfl rfl rfl rfl (own_trip (sp1.ext (ZK.trans XA)) (by rw [List.length_take]; omega) fun D1 m1 Y1 P1 => DZ.val Y1 fun q1 D1' ds1 t1 => ?_)
        have P1 := (P1.low (lo' := K.next) XA.next).ext t1.ext
        obtain ⟨pp, pm, pc, py, em⟩ := P1.form
        rw [em]
        clear ds_ ds
        repeat (first | refine W.dopn rfl rfl (op_add (by omega) (by omega)) rfl ?_ | refine W.dopn (v := .int _ _) rfl rfl rfl rfl ?_ | refine W.dopn (v := .ptr _) rfl rfl rfl rfl ?_ | refine W.dlk (by assumption) (by assumption) (by first | assumption | exact Ext.refl _ | ((repeat (first | assumption | refine Ext.trans ?_ (by assumption))); done)) rfl rfl rfl rfl rfl rfl rfl fun r_ h_ ds_ s_ => ?_)
        refine W.dslf (Sl.to_map Flat.iff s5) (k := k + 1) (by rw [List.length_map]; omega) rfl rfl rfl rfl rfl rfl rfl fun p2 sp2 => ?_
        skip
        rw [← em]
        have P1 := P1.ext s_.ext
        have XB := ds_.x
        refine W.apD (H := K) (z := 5) (l2 := (x.trips.map Flat.enc).drop (k + 1)) ds_.hri XB P1 (sp2.ext (ZK.trans XB)) rfl rfl rfl rfl rfl rfl rfl rfl rfl rfl rfl rfl rfl (by rw [List.length_map, List.length_drop, List.length_map, List.length_take]; show _ * 56 ≤ _; omega) fun q2 m2 D2 hr2 XD2 nD2 kD2 P2 _ _ => ?_
        have P2 : OwnR D2 K.next 5 m2 ((Tt.cut x.trips k).map Flat.enc) := by
          have e : (Tt.cut x.trips k).map (Flat.enc : TripS → List CV) = (x.trips.take k).map Flat.enc ++ (x.trips.map Flat.enc).drop (k + 1) := by unfold Tt.cut; rw [List.map_append, List.map_drop]
          rw [e]; exact P2
        obtain ⟨pp2, pm2, pc2, py2, em2⟩ := P2.form
        have hc2 : m2.cells = some [m2] := by rw [em2]; rfl
        rw [em2]
        repeat (first | refine W.dopn (v := .ptr _) rfl rfl rfl rfl ?_)
        rw [← em2]
        have nXD2 := XD2.next
        refine W.dst (vs := [m2]) (cs' := [a0, a1, a2, a3, ar, m2, a6]) hr2 rfl rfl rfl rfl hc2 rfl rfl ((XD2.old y9 (by omega)).trans g5) rfl fun q3 D3 hr3 t3 => ?_
        repeat (first | refine W.dnil ?_)
        have n3 : D3.next = D2.next := t3.next
        have k3 : ∀ k, k ≠ y9 → D3.get k = D2.get k := fun k hk => by rw [t3.get, Heap.get_put, if_neg (Ne.symm hk)]
        have gy : D3.get y9 = some (.cells [a0, a1, a2, a3, ar, m2, a6] false) := by rw [t3.get, put_same]
        have EN3 : Ext N2 D3 := Ext.store (ENK.trans XD2) n3 k3 (by omega) (by omega)
        have EG3 : Ext G2' D3 := Ext.store (EG.trans XD2) n3 k3 (by omega) (by omega)
        have ZD3 : Ext h D3 := ZN.trans EN3
        have gz3 : D3.get z9 = some (.cells [b0, b1, b2, b3, br, b5, b6] false) := (k3 z9 (by omega)).trans ((XD2.old z9 (by omega)).trans g6)
        have Lz : LocE D3 z9 0 [b0, b1, b2, b3, br, b5, b6] := ⟨_, _, gz3, by omega, rfl⟩
        refine W.keep5 3 9 10 11 12 fun T k3 k9 k10 k11 k12 => ?_
        conv at k3 => rhs; whnf
        conv at k9 => rhs; whnf
        conv at k10 => rhs; whnf
        conv at k11 => rhs; whnf
        conv at k12 => rhs; whnf
        rw [show T = (((((T.set 3 (some (T.look 3))).set 9 (some (T.look 9))).set 10 (some (T.look 10))).set 11 (some (T.look 11))).set 12 (some (T.look 12))) from rfl, k3, k9, k10, k11, k12]
        clear k3 k9 k10 k11 k12
        clear em em2
        repeat (first | (with_reducible first | refine W.seq ?_ | refine W.draws ?_))
        have ds := DX.start (ZD3.fr fr)
        repeat (first | refine W.dopn (v := .int _ _) rfl rfl rfl rfl ?_ | refine W.dopn (v := .ptr _) rfl rfl rfl rfl ?_ | refine W.dlk (by assumption) (by assumption) (by first | assumption | exact Ext.refl _ | ((repeat (first | assumption | refine Ext.trans ?_ (by assumption))); done)) rfl rfl rfl rfl rfl rfl rfl fun r_ h_ ds_ s_ => ?_)
        refine W.dixF s5 hk rfl rfl rfl rfl rfl rfl rfl fun i_ o_ Le => ?_
        repeat (first | refine W.dlw (by assumption) (by assumption) (by first | assumption | exact Ext.refl _ | ((repeat (first | assumption | refine Ext.trans ?_ (by assumption))); done)) rfl rfl rfl rfl (by first | rfl | assumption) rfl fun r_ h_ ds_ s_ => ?_)
        have nXE := ds_.x.next
        refine W.dnewZ ds_ rfl rfl rfl rfl fun q4 D4 ds4 x4 n4 g4 => ?_
        have g4 : D4.get h_.next = some (.cells (Flat.enc x.trips[k]) false) := g4
        skip
        have XF := ds4.x
        have nXF := XF.next
        have S4 : SlG D4 5 (.slice (some (h_.next, 0)) 1 1 0) [Flat.enc x.trips[k]] := SlG.one (by omega) g4
        refine W.apD (H := N2) (z := 5) (l2 := [Flat.enc x.trips[k]]) ds4.hri (EN3.trans XF) (O2.o5.ext (EG3.trans XF)) S4 rfl rfl rfl rfl rfl rfl rfl rfl rfl rfl rfl rfl rfl (by rw [List.length_map]; show (_ + 1) * 56 ≤ _; omega) fun q5 m5 D5 hr5 XD5 nD5 kD5 P5 _ i5 => ?_
        have i5 := i5 (by simp)
        obtain ⟨pp5, pm5, pc5, py5, em5⟩ := P5.form
        have hc5 : m5.cells = some [m5] := by rw [em5]; rfl
        rw [em5]
        repeat (first | refine W.dopn (v := .ptr _) rfl rfl rfl rfl ?_)
        rw [← em5]
        have I5 := I5
        have big : ∀ a, y9 ≤ a → idOf b5 ≠ [a] := fun a ha e => by have := (I5 a (by rw [e]; simp)).2; omega
        refine W.dst (vs := [m5]) (cs' := [b0, b1, b2, b3, br, m5, b6]) hr5 rfl rfl rfl rfl hc5 rfl rfl ((kD5 z9 (by omega) (.inr (big _ (by omega)))).trans ((XF.old z9 (by omega)).trans gz3)) rfl fun q6 D6 hr6 t6 => ?_
        repeat (first | refine W.dnil ?_)
        have n6 : D6.next = D5.next := t6.next
        have k6 : ∀ k, k ≠ z9 → D6.get k = D5.get k := fun k hk => by rw [t6.get, Heap.get_put, if_neg (Ne.symm hk)]
        have gz6 : D6.get z9 = some (.cells [b0, b1, b2, b3, br, m5, b6] false) := by rw [t6.get, put_same]
        have EN6 : Ext N2 D6 := Ext.store XD5 n6 k6 (by omega) (by omega)
        refine W.keep5 3 9 10 11 12 fun T k3 k9 k10 k11 k12 => ?_
        conv at k3 => rhs; whnf
        conv at k9 => rhs; whnf
        conv at k10 => rhs; whnf
        conv at k11 => rhs; whnf
        conv at k12 => rhs; whnf
        rw [show T = (((((T.set 3 (some (T.look 3))).set 9 (some (T.look 9))).set 10 (some (T.look 10))).set 11 (some (T.look 11))).set 12 (some (T.look 12))) from rfl, k3, k9, k10, k11, k12]
        clear k3 k9 k10 k11 k12
        clear ds_ ds4
        repeat (first | (with_reducible first | refine W.region ?_) | refine W.lnS (by assumption) rfl rfl rfl rfl rfl rfl rfl rfl ?_ | refine W.opn (v := .ptr _) rfl rfl rfl ?_ | refine W.opn (v := .agg _) rfl rfl rfl ?_ | refine W.ldk (by assumption) (by first | assumption | exact Ext.refl _ | ((repeat (first | assumption | refine Ext.trans ?_ (by assumption))); done)) rfl rfl rfl rfl rfl rfl rfl rfl ?_)
        have old6 : ∀ a, a ≠ z9 → a ≠ y9 → a < K.next → (a < N2.next ∨ idOf b5 ≠ [a]) → D6.get a = K.get a := fun a h1 h2 h3 h4 => (k6 a h1).trans ((kD5 a (by omega) h4).trans ((XF.old a (by omega)).trans ((k3 a h2).trans (XD2.old a h3))))
        refine W.stn (vs := [.int .i64 6, .int .i64 5, .int .i64 (x.trips.length : Int)]) (cs' := [.int .i64 6, .int .i64 5, .int .i64 (x.trips.length : Int)]) rfl rfl rfl rfl rfl rfl ((old6 wq (by omega) (by omega) (by omega) (.inr (big _ (by omega)))).trans g9) rfl fun D7 n7 gw7 k7 => ?_
        repeat (first | (with_reducible first | refine BlockQ.normal ?_ | refine CutQ.normal ?_) | refine W.nil ?_)
        have EN7 : Ext N2 D7 := Ext.store EN6 n7 k7 (by omega) (by omega)
        have O1' := O1.ext EN7
        obtain ⟨css, r1, _⟩ := O1'.r
        have P2' : OwnR D7 K.next 5 m2 ((Tt.cut x.trips k).map Flat.enc) := P2.other (by omega) fun a ha hlt hid => (k7 a (by omega)).trans ((k6 a (by omega)).trans ((kD5 a (by omega) (.inr (big _ (by omega)))).trans ((XF.old a (by omega)).trans (k3 a (by omega)))))
        have P5' : OwnR D7 N2.next 5 m5 ((x.trips ++ [x.trips[k]]).map Flat.enc) := by
          rw [List.map_append]
          refine P5.other (by omega) fun a ha hlt hid => ?_
          rw [i5] at hid
          have hid : D4.next = a := by simpa using hid
          exact (k7 a (by omega)).trans (k6 a (by omega))
        refine ⟨rfl, rfl, rfl, ZN.trans EN7, [a0, a1, a2, a3, ar, m2, a6], [b0, b1, b2, b3, br, m5, b6], { x with trips := Tt.cut x.trips k }, { x with trips := x.trips ++ [x.trips[k]] }, ⟨6, 5, x.trips.length⟩, ⟨_, _, (k7 y9 (by omega)).trans ((k6 y9 (by omega)).trans ((kD5 y9 (by omega) (.inr (big _ (Nat.le_refl _)))).trans ((XF.old y9 (by omega)).trans gy))), by omega, rfl⟩, ⟨a1, a2, a3, ar, m2, a6, by rw [O1'.hz], O1'.o1.toSl, O1'.o2.toSl, O1'.o3.toSl, r1.toSl, P2'.toSl, O1'.o6.toSl⟩, ⟨_, _, (k7 z9 (by omega)).trans gz6, by omega, rfl⟩, (O2.trips (h' := D7) (by omega) (fun a ha h4 => (k7 a (by omega)).trans ((old6 a (by omega) (by omega) (by omega) h4).trans (EG.old a ha))) P5' (.inr ⟨_, i5, by omega⟩)).rp, ⟨_, _, gw7, by omega, rfl⟩, li.slim, li.slim, by rw [(fit.cutTrips k).make], fit.moreTrips (List.getElem_mem hk) (by omega)⟩
      · repeat (first | (with_reducible first | refine W.seq ?_ | refine W.block ?_ | refine W.region ?_ | refine W.skip ?_ | refine SeqQ.normal ?_ | refine BlockQ.normal ?_ | refine CutQ.normal ?_) | refine W.lnS (by assumption) rfl rfl rfl rfl rfl rfl rfl rfl ?_ | refine W.opn rfl op_lss rfl ?_ | refine W.opn rfl op_eql rfl ?_ | refine W.opn (v := .ptr _) rfl rfl rfl ?_ | refine W.opn (v := .bool _) rfl rfl rfl ?_ | refine W.nil ?_ | refine W.ldk (by assumption) (by first | assumption | exact Ext.refl _ | ((repeat (first | assumption | refine Ext.trans ?_ (by assumption))); done)) rfl rfl rfl rfl rfl rfl rfl rfl ?_ | refine W.cond (x := true) rfl (fun _ => ?_) (fun hc => by cases hc) | refine W.cond (x := false) rfl (fun hc => by cases hc) (fun _ => ?_) | rw [decide_eq_true (by first | assumption | omega)] | rw [decide_eq_false (by first | assumption | omega)])
        exact ⟨rfl, rfl, rfl, ZK, [a0, a1, a2, a3, ar, a5, a6], [b0, b1, b2, b3, br, b5, b6], x, x, Wrong0, ⟨_, _, g5, by omega, rfl⟩, (O1.ext ENK).rp, ⟨_, _, g6, by omega, rfl⟩, (O2.ext EG).rp, ⟨_, _, g9, by omega, rfl⟩, li.slim, li.slim, by rw [fit.make], by rw [fit.make]⟩
    · by_cases c : 0 < x.hazards.length
      · repeat (first | (with_reducible first | refine W.seq ?_ | refine W.block ?_ | refine W.region ?_ | refine SeqQ.normal ?_) | refine W.lnS (by assumption) rfl rfl rfl rfl rfl rfl rfl rfl ?_ | refine W.opn rfl op_lss rfl ?_ | refine W.opn rfl op_eql rfl ?_ | refine W.opn (v := .int _ _) rfl rfl rfl ?_ | refine W.opn (v := .ptr _) rfl rfl rfl ?_ | refine W.opn (v := .bool _) rfl rfl rfl ?_ | refine W.nil ?_ | refine W.ldk (by assumption) (by first | assumption | exact Ext.refl _ | ((repeat (first | assumption | refine Ext.trans ?_ (by assumption))); done)) rfl rfl rfl rfl rfl rfl rfl rfl ?_ | refine W.cond (x := true) rfl (fun _ => ?_) (fun hc => by cases hc) | refine W.cond (x := false) rfl (fun hc => by cases hc) (fun _ => ?_) | rw [decide_eq_true (by first | assumption | omega)] | rw [decide_eq_false (by first | assumption | omega)])
        refine W.call rfl rfl rfl (pick_w at' x.hazards.length (by omega) (by omega) fun k hk => ?_)
        repeat (first | (with_reducible first | refine W.seq ?_ | refine W.draws ?_ | refine SeqQ.normal ?_ | refine CallQ.val ?_) | refine W.opn (v := .int _ _) rfl rfl rfl ?_ | refine W.nil ?_)
        have ds := DX.start (ZK.fr fr)
        repeat (first | refine W.dopn (v := .int _ _) rfl rfl rfl rfl ?_ | refine W.dopn (v := .ptr _) rfl rfl rfl rfl ?_ | refine W.dlk (by assumption) (by assumption) (by first | assumption | exact Ext.refl _ | ((repeat (first | assumption | refine Ext.trans ?_ (by assumption))); done)) rfl rfl rfl rfl rfl rfl rfl fun r_ h_ ds_ s_ => ?_)
        refine W.dslu (Sl.to_map Flat.iff s6) (k := k) (by rw [List.length_map]; omega) rfl rfl rfl rfl rfl rfl rfl fun p1 sp1 => ?_
        have sp1 : Sl h p1 (x.hazards.take k) := Sl.of_map Flat.iff (by rw [List.map_take]; exact sp1)
        skip
        have XA := ds_.x
        refine W.dcallZ ds_ rfl rfl rfl rfl (own_haz (sp1.ext (ZK.trans XA)) (by rw [List.length_take]; omega) fun D1 m1 Y1 P1 => DZ.val Y1 fun q1 D1' ds1 t1 => ?_)
        have P1 := (P1.low (lo' := K.next) XA.next).ext t1.ext
        obtain ⟨pp, pm, pc, py, em⟩ := P1.form
        rw [em]
        clear ds_ ds
        repeat (first | refine W.dopn rfl rfl (op_add (by omega) (by omega)) rfl ?_ | refine W.dopn (v := .int _ _) rfl rfl rfl rfl ?_ | refine W.dopn (v := .ptr _) rfl rfl rfl rfl ?_ | refine W.dlk (by assumption) (by assumption) (by first | assumption | exact Ext.refl _ | ((repeat (first | assumption | refine Ext.trans ?_ (by assumption))); done)) rfl rfl rfl rfl rfl rfl rfl fun r_ h_ ds_ s_ => ?_)
        refine W.dslf (Sl.to_map Flat.iff s6) (k := k + 1) (by rw [List.length_map]; omega) rfl rfl rfl rfl rfl rfl rfl fun p2 sp2 => ?_
        skip
        rw [← em]
        have P1 := P1.ext s_.ext
        have XB := ds_.x
        refine W.apD (H := K) (z := 5) (l2 := (x.hazards.map Flat.enc).drop (k + 1)) ds_.hri XB P1 (sp2.ext (ZK.trans XB)) rfl rfl rfl rfl rfl rfl rfl rfl rfl rfl rfl rfl rfl (by rw [List.length_map, List.length_drop, List.length_map, List.length_take]; show _ * 56 ≤ _; omega) fun q2 m2 D2 hr2 XD2 nD2 kD2 P2 _ _ => ?_
        have P2 : OwnR D2 K.next 5 m2 ((Tt.cut x.hazards k).map Flat.enc) := by
          have e : (Tt.cut x.hazards k).map (Flat.enc : HazS → List CV) = (x.hazards.take k).map Flat.enc ++ (x.hazards.map Flat.enc).drop (k + 1) := by unfold Tt.cut; rw [List.map_append, List.map_drop]
          rw [e]; exact P2
        obtain ⟨pp2, pm2, pc2, py2, em2⟩ := P2.form
        have hc2 : m2.cells = some [m2] := by rw [em2]; rfl
        rw [em2]
        repeat (first | refine W.dopn (v := .ptr _) rfl rfl rfl rfl ?_)
        rw [← em2]
        have nXD2 := XD2.next
        refine W.dst (vs := [m2]) (cs' := [a0, a1, a2, a3, ar, a5, m2]) hr2 rfl rfl rfl rfl hc2 rfl rfl ((XD2.old y9 (by omega)).trans g5) rfl fun q3 D3 hr3 t3 => ?_
        repeat (first | refine W.dnil ?_)
        have n3 : D3.next = D2.next := t3.next
        have k3 : ∀ k, k ≠ y9 → D3.get k = D2.get k := fun k hk => by rw [t3.get, Heap.get_put, if_neg (Ne.symm hk)]
        have gy : D3.get y9 = some (.cells [a0, a1, a2, a3, ar, a5, m2] false) := by rw [t3.get, put_same]
        have EN3 : Ext N2 D3 := Ext.store (ENK.trans XD2) n3 k3 (by omega) (by omega)
        have EG3 : Ext G2' D3 := Ext.store (EG.trans XD2) n3 k3 (by omega) (by omega)
        have ZD3 : Ext h D3 := ZN.trans EN3
        have gz3 : D3.get z9 = some (.cells [b0, b1, b2, b3, br, b5, b6] false) := (k3 z9 (by omega)).trans ((XD2.old z9 (by omega)).trans g6)
        have Lz : LocE D3 z9 0 [b0, b1, b2, b3, br, b5, b6] := ⟨_, _, gz3, by omega, rfl⟩
        refine W.keep5 3 9 10 11 13 fun T k3 k9 k10 k11 k13 => ?_
        conv at k3 => rhs; whnf
        conv at k9 => rhs; whnf
        conv at k10 => rhs; whnf
        conv at k11 => rhs; whnf
        conv at k13 => rhs; whnf
        rw [show T = (((((T.set 3 (some (T.look 3))).set 9 (some (T.look 9))).set 10 (some (T.look 10))).set 11 (some (T.look 11))).set 13 (some (T.look 13))) from rfl, k3, k9, k10, k11, k13]
        clear k3 k9 k10 k11 k13
        clear em em2
        repeat (first | (with_reducible first | refine W.seq ?_ | refine W.draws ?_))
        have ds := DX.start (ZD3.fr fr)
        repeat (first | refine W.dopn (v := .int _ _) rfl rfl rfl rfl ?_ | refine W.dopn (v := .ptr _) rfl rfl rfl rfl ?_ | refine W.dlk (by assumption) (by assumption) (by first | assumption | exact Ext.refl _ | ((repeat (first | assumption | refine Ext.trans ?_ (by assumption))); done)) rfl rfl rfl rfl rfl rfl rfl fun r_ h_ ds_ s_ => ?_)
        refine W.dixF s6 hk rfl rfl rfl rfl rfl rfl rfl fun i_ o_ Le => ?_
        repeat (first | refine W.dlw (by assumption) (by assumption) (by first | assumption | exact Ext.refl _ | ((repeat (first | assumption | refine Ext.trans ?_ (by assumption))); done)) rfl rfl rfl rfl (by first | rfl | assumption) rfl fun r_ h_ ds_ s_ => ?_)
        have nXE := ds_.x.next
        refine W.dnewZ ds_ rfl rfl rfl rfl fun q4 D4 ds4 x4 n4 g4 => ?_
        have g4 : D4.get h_.next = some (.cells (Flat.enc x.hazards[k]) false) := g4
        skip
        have XF := ds4.x
        have nXF := XF.next
        have S4 : SlG D4 5 (.slice (some (h_.next, 0)) 1 1 0) [Flat.enc x.hazards[k]] := SlG.one (by omega) g4
        refine W.apD (H := N2) (z := 5) (l2 := [Flat.enc x.hazards[k]]) ds4.hri (EN3.trans XF) (O2.o6.ext (EG3.trans XF)) S4 rfl rfl rfl rfl rfl rfl rfl rfl rfl rfl rfl rfl rfl (by rw [List.length_map]; show (_ + 1) * 56 ≤ _; omega) fun q5 m5 D5 hr5 XD5 nD5 kD5 P5 _ i5 => ?_
        have i5 := i5 (by simp)
        obtain ⟨pp5, pm5, pc5, py5, em5⟩ := P5.form
        have hc5 : m5.cells = some [m5] := by rw [em5]; rfl
        rw [em5]
        repeat (first | refine W.dopn (v := .ptr _) rfl rfl rfl rfl ?_)
        rw [← em5]
        have I5 := I6
        have big : ∀ a, y9 ≤ a → idOf b6 ≠ [a] := fun a ha e => by have := (I5 a (by rw [e]; simp)).2; omega
        refine W.dst (vs := [m5]) (cs' := [b0, b1, b2, b3, br, b5, m5]) hr5 rfl rfl rfl rfl hc5 rfl rfl ((kD5 z9 (by omega) (.inr (big _ (by omega)))).trans ((XF.old z9 (by omega)).trans gz3)) rfl fun q6 D6 hr6 t6 => ?_
        repeat (first | refine W.dnil ?_)
        have n6 : D6.next = D5.next := t6.next
        have k6 : ∀ k, k ≠ z9 → D6.get k = D5.get k := fun k hk => by rw [t6.get, Heap.get_put, if_neg (Ne.symm hk)]
        have gz6 : D6.get z9 = some (.cells [b0, b1, b2, b3, br, b5, m5] false) := by rw [t6.get, put_same]
        have EN6 : Ext N2 D6 := Ext.store XD5 n6 k6 (by omega) (by omega)
        refine W.keep5 3 9 10 11 13 fun T k3 k9 k10 k11 k13 => ?_
        conv at k3 => rhs; whnf
        conv at k9 => rhs; whnf
        conv at k10 => rhs; whnf
        conv at k11 => rhs; whnf
        conv at k13 => rhs; whnf
        rw [show T = (((((T.set 3 (some (T.look 3))).set 9 (some (T.look 9))).set 10 (some (T.look 10))).set 11 (some (T.look 11))).set 13 (some (T.look 13))) from rfl, k3, k9, k10, k11, k13]
        clear k3 k9 k10 k11 k13
        clear ds_ ds4
        repeat (first | (with_reducible first | refine W.region ?_) | refine W.lnS (by assumption) rfl rfl rfl rfl rfl rfl rfl rfl ?_ | refine W.opn (v := .ptr _) rfl rfl rfl ?_ | refine W.opn (v := .agg _) rfl rfl rfl ?_ | refine W.ldk (by assumption) (by first | assumption | exact Ext.refl _ | ((repeat (first | assumption | refine Ext.trans ?_ (by assumption))); done)) rfl rfl rfl rfl rfl rfl rfl rfl ?_)
        have old6 : ∀ a, a ≠ z9 → a ≠ y9 → a < K.next → (a < N2.next ∨ idOf b6 ≠ [a]) → D6.get a = K.get a := fun a h1 h2 h3 h4 => (k6 a h1).trans ((kD5 a (by omega) h4).trans ((XF.old a (by omega)).trans ((k3 a h2).trans (XD2.old a h3))))
        refine W.stn (vs := [.int .i64 6, .int .i64 6, .int .i64 (x.hazards.length : Int)]) (cs' := [.int .i64 6, .int .i64 6, .int .i64 (x.hazards.length : Int)]) rfl rfl rfl rfl rfl rfl ((old6 wq (by omega) (by omega) (by omega) (.inr (big _ (by omega)))).trans g9) rfl fun D7 n7 gw7 k7 => ?_
        repeat (first | (with_reducible first | refine BlockQ.normal ?_ | refine CutQ.normal ?_) | refine W.nil ?_)
        have EN7 : Ext N2 D7 := Ext.store EN6 n7 k7 (by omega) (by omega)
        have O1' := O1.ext EN7
        obtain ⟨css, r1, _⟩ := O1'.r
        have P2' : OwnR D7 K.next 5 m2 ((Tt.cut x.hazards k).map Flat.enc) := P2.other (by omega) fun a ha hlt hid => (k7 a (by omega)).trans ((k6 a (by omega)).trans ((kD5 a (by omega) (.inr (big _ (by omega)))).trans ((XF.old a (by omega)).trans (k3 a (by omega)))))
        have P5' : OwnR D7 N2.next 5 m5 ((x.hazards ++ [x.hazards[k]]).map Flat.enc) := by
          rw [List.map_append]
          refine P5.other (by omega) fun a ha hlt hid => ?_
          rw [i5] at hid
          have hid : D4.next = a := by simpa using hid
          exact (k7 a (by omega)).trans (k6 a (by omega))
        refine ⟨rfl, rfl, rfl, ZN.trans EN7, [a0, a1, a2, a3, ar, a5, m2], [b0, b1, b2, b3, br, b5, m5], { x with hazards := Tt.cut x.hazards k }, { x with hazards := x.hazards ++ [x.hazards[k]] }, ⟨6, 6, x.hazards.length⟩, ⟨_, _, (k7 y9 (by omega)).trans ((k6 y9 (by omega)).trans ((kD5 y9 (by omega) (.inr (big _ (Nat.le_refl _)))).trans ((XF.old y9 (by omega)).trans gy))), by omega, rfl⟩, ⟨a1, a2, a3, ar, a5, m2, by rw [O1'.hz], O1'.o1.toSl, O1'.o2.toSl, O1'.o3.toSl, r1.toSl, O1'.o5.toSl, P2'.toSl⟩, ⟨_, _, (k7 z9 (by omega)).trans gz6, by omega, rfl⟩, (O2.hazards (h' := D7) (by omega) (fun a ha h4 => (k7 a (by omega)).trans ((old6 a (by omega) (by omega) (by omega) h4).trans (EG.old a ha))) P5' (.inr ⟨_, i5, by omega⟩)).rp, ⟨_, _, gw7, by omega, rfl⟩, li.slim, li.slim, by rw [(fit.cutHaz k).make], fit.moreHaz (List.getElem_mem hk) (by omega)⟩
      · repeat (first | (with_reducible first | refine W.seq ?_ | refine W.block ?_ | refine W.region ?_ | refine W.skip ?_ | refine SeqQ.normal ?_ | refine BlockQ.normal ?_ | refine CutQ.normal ?_) | refine W.lnS (by assumption) rfl rfl rfl rfl rfl rfl rfl rfl ?_ | refine W.opn rfl op_lss rfl ?_ | refine W.opn rfl op_eql rfl ?_ | refine W.opn (v := .ptr _) rfl rfl rfl ?_ | refine W.opn (v := .bool _) rfl rfl rfl ?_ | refine W.nil ?_ | refine W.ldk (by assumption) (by first | assumption | exact Ext.refl _ | ((repeat (first | assumption | refine Ext.trans ?_ (by assumption))); done)) rfl rfl rfl rfl rfl rfl rfl rfl ?_ | refine W.cond (x := true) rfl (fun _ => ?_) (fun hc => by cases hc) | refine W.cond (x := false) rfl (fun hc => by cases hc) (fun _ => ?_) | rw [decide_eq_true (by first | assumption | omega)] | rw [decide_eq_false (by first | assumption | omega)])
        exact ⟨rfl, rfl, rfl, ZK, [a0, a1, a2, a3, ar, a5, a6], [b0, b1, b2, b3, br, b5, b6], x, x, Wrong0, ⟨_, _, g5, by omega, rfl⟩, (O1.ext ENK).rp, ⟨_, _, g6, by omega, rfl⟩, (O2.ext EG).rp, ⟨_, _, g9, by omega, rfl⟩, li.slim, li.slim, by rw [fit.make], by rw [fit.make]⟩
    · by_cases c : 0 < x.doors.length
      · repeat (first | (with_reducible first | refine W.seq ?_ | refine W.block ?_ | refine W.region ?_ | refine SeqQ.normal ?_) | refine W.lnS (by assumption) rfl rfl rfl rfl rfl rfl rfl rfl ?_ | refine W.opn rfl op_lss rfl ?_ | refine W.opn rfl op_eql rfl ?_ | refine W.opn (v := .int _ _) rfl rfl rfl ?_ | refine W.opn (v := .ptr _) rfl rfl rfl ?_ | refine W.opn (v := .bool _) rfl rfl rfl ?_ | refine W.nil ?_ | refine W.ldk (by assumption) (by first | assumption | exact Ext.refl _ | ((repeat (first | assumption | refine Ext.trans ?_ (by assumption))); done)) rfl rfl rfl rfl rfl rfl rfl rfl ?_ | refine W.cond (x := true) rfl (fun _ => ?_) (fun hc => by cases hc) | refine W.cond (x := false) rfl (fun hc => by cases hc) (fun _ => ?_) | rw [decide_eq_true (by first | assumption | omega)] | rw [decide_eq_false (by first | assumption | omega)])
        refine W.call rfl rfl rfl (pick_w at' x.doors.length (by omega) (by omega) fun k hk => ?_)
        repeat (first | (with_reducible first | refine W.seq ?_ | refine W.draws ?_ | refine SeqQ.normal ?_ | refine CallQ.val ?_) | refine W.opn (v := .int _ _) rfl rfl rfl ?_ | refine W.nil ?_)
        have ds := DX.start (ZK.fr fr)
        repeat (first | refine W.dopn (v := .int _ _) rfl rfl rfl rfl ?_ | refine W.dopn (v := .ptr _) rfl rfl rfl rfl ?_ | refine W.dlk (by assumption) (by assumption) (by first | assumption | exact Ext.refl _ | ((repeat (first | assumption | refine Ext.trans ?_ (by assumption))); done)) rfl rfl rfl rfl rfl rfl rfl fun r_ h_ ds_ s_ => ?_)
        refine W.dslu (Sl.to_map Flat.iff s3) (k := k) (by rw [List.length_map]; omega) rfl rfl rfl rfl rfl rfl rfl fun p1 sp1 => ?_
        have sp1 : Sl h p1 (x.doors.take k) := Sl.of_map Flat.iff (by rw [List.map_take]; exact sp1)
        skip
        have XA := ds_.x
        refine W.dcallZ ds_ rfl rfl rfl rfl (own_door (sp1.ext (ZK.trans XA)) (by rw [List.length_take]; omega) fun D1 m1 Y1 P1 => DZ.val Y1 fun q1 D1' ds1 t1 => ?_)
        have P1 := (P1.low (lo' := K.next) XA.next).ext t1.ext
        obtain ⟨pp, pm, pc, py, em⟩ := P1.form
        rw [em]
        clear ds_ ds
        repeat (first | refine W.dopn rfl rfl (op_add (by omega) (by omega)) rfl ?_ | refine W.dopn (v := .int _ _) rfl rfl rfl rfl ?_ | refine W.dopn (v := .ptr _) rfl rfl rfl rfl ?_ | refine W.dlk (by assumption) (by assumption) (by first | assumption | exact Ext.refl _ | ((repeat (first | assumption | refine Ext.trans ?_ (by assumption))); done)) rfl rfl rfl rfl rfl rfl rfl fun r_ h_ ds_ s_ => ?_)
        refine W.dslf (Sl.to_map Flat.iff s3) (k := k + 1) (by rw [List.length_map]; omega) rfl rfl rfl rfl rfl rfl rfl fun p2 sp2 => ?_
        skip
        rw [← em]
        have P1 := P1.ext s_.ext
        have XB := ds_.x
        refine W.apD (H := K) (z := 7) (l2 := (x.doors.map Flat.enc).drop (k + 1)) ds_.hri XB P1 (sp2.ext (ZK.trans XB)) rfl rfl rfl rfl rfl rfl rfl rfl rfl rfl rfl rfl rfl (by rw [List.length_map, List.length_drop, List.length_map, List.length_take]; show _ * 80 ≤ _; omega) fun q2 m2 D2 hr2 XD2 nD2 kD2 P2 _ _ => ?_
        have P2 : OwnR D2 K.next 7 m2 ((Tt.cut x.doors k).map Flat.enc) := by
          have e : (Tt.cut x.doors k).map (Flat.enc : DoorS → List CV) = (x.doors.take k).map Flat.enc ++ (x.doors.map Flat.enc).drop (k + 1) := by unfold Tt.cut; rw [List.map_append, List.map_drop]
          rw [e]; exact P2
        obtain ⟨pp2, pm2, pc2, py2, em2⟩ := P2.form
        have hc2 : m2.cells = some [m2] := by rw [em2]; rfl
        rw [em2]
        repeat (first | refine W.dopn (v := .ptr _) rfl rfl rfl rfl ?_)
        rw [← em2]
        have nXD2 := XD2.next
        refine W.dst (vs := [m2]) (cs' := [a0, a1, a2, m2, ar, a5, a6]) hr2 rfl rfl rfl rfl hc2 rfl rfl ((XD2.old y9 (by omega)).trans g5) rfl fun q3 D3 hr3 t3 => ?_
        repeat (first | refine W.dnil ?_)
        have n3 : D3.next = D2.next := t3.next
        have k3 : ∀ k, k ≠ y9 → D3.get k = D2.get k := fun k hk => by rw [t3.get, Heap.get_put, if_neg (Ne.symm hk)]
        have gy : D3.get y9 = some (.cells [a0, a1, a2, m2, ar, a5, a6] false) := by rw [t3.get, put_same]
        have EN3 : Ext N2 D3 := Ext.store (ENK.trans XD2) n3 k3 (by omega) (by omega)
        have EG3 : Ext G2' D3 := Ext.store (EG.trans XD2) n3 k3 (by omega) (by omega)
        have ZD3 : Ext h D3 := ZN.trans EN3
        have gz3 : D3.get z9 = some (.cells [b0, b1, b2, b3, br, b5, b6] false) := (k3 z9 (by omega)).trans ((XD2.old z9 (by omega)).trans g6)
        have Lz : LocE D3 z9 0 [b0, b1, b2, b3, br, b5, b6] := ⟨_, _, gz3, by omega, rfl⟩
        refine W.keep5 3 9 10 11 14 fun T k3 k9 k10 k11 k14 => ?_
        conv at k3 => rhs; whnf
        conv at k9 => rhs; whnf
        conv at k10 => rhs; whnf
        conv at k11 => rhs; whnf
        conv at k14 => rhs; whnf
        rw [show T = (((((T.set 3 (some (T.look 3))).set 9 (some (T.look 9))).set 10 (some (T.look 10))).set 11 (some (T.look 11))).set 14 (some (T.look 14))) from rfl, k3, k9, k10, k11, k14]
        clear k3 k9 k10 k11 k14
        clear em em2
        repeat (first | (with_reducible first | refine W.seq ?_ | refine W.draws ?_))
        have ds := DX.start (ZD3.fr fr)
        repeat (first | refine W.dopn (v := .int _ _) rfl rfl rfl rfl ?_ | refine W.dopn (v := .ptr _) rfl rfl rfl rfl ?_ | refine W.dlk (by assumption) (by assumption) (by first | assumption | exact Ext.refl _ | ((repeat (first | assumption | refine Ext.trans ?_ (by assumption))); done)) rfl rfl rfl rfl rfl rfl rfl fun r_ h_ ds_ s_ => ?_)
        refine W.dixF s3 hk rfl rfl rfl rfl rfl rfl rfl fun i_ o_ Le => ?_
        repeat (first | refine W.dlw (by assumption) (by assumption) (by first | assumption | exact Ext.refl _ | ((repeat (first | assumption | refine Ext.trans ?_ (by assumption))); done)) rfl rfl rfl rfl (by first | rfl | assumption) rfl fun r_ h_ ds_ s_ => ?_)
        have nXE := ds_.x.next
        refine W.dnewZ ds_ rfl rfl rfl rfl fun q4 D4 ds4 x4 n4 g4 => ?_
        have g4 : D4.get h_.next = some (.cells (Flat.enc x.doors[k]) false) := g4
        skip
        have XF := ds4.x
        have nXF := XF.next
        have S4 : SlG D4 7 (.slice (some (h_.next, 0)) 1 1 0) [Flat.enc x.doors[k]] := SlG.one (by omega) g4
        refine W.apD (H := N2) (z := 7) (l2 := [Flat.enc x.doors[k]]) ds4.hri (EN3.trans XF) (O2.o3.ext (EG3.trans XF)) S4 rfl rfl rfl rfl rfl rfl rfl rfl rfl rfl rfl rfl rfl (by rw [List.length_map]; show (_ + 1) * 80 ≤ _; omega) fun q5 m5 D5 hr5 XD5 nD5 kD5 P5 _ i5 => ?_
        have i5 := i5 (by simp)
        obtain ⟨pp5, pm5, pc5, py5, em5⟩ := P5.form
        have hc5 : m5.cells = some [m5] := by rw [em5]; rfl
        rw [em5]
        repeat (first | refine W.dopn (v := .ptr _) rfl rfl rfl rfl ?_)
        rw [← em5]
        have I5 := I3
        have big : ∀ a, y9 ≤ a → idOf b3 ≠ [a] := fun a ha e => by have := (I5 a (by rw [e]; simp)).2; omega
        refine W.dst (vs := [m5]) (cs' := [b0, b1, b2, m5, br, b5, b6]) hr5 rfl rfl rfl rfl hc5 rfl rfl ((kD5 z9 (by omega) (.inr (big _ (by omega)))).trans ((XF.old z9 (by omega)).trans gz3)) rfl fun q6 D6 hr6 t6 => ?_
        repeat (first | refine W.dnil ?_)
        have n6 : D6.next = D5.next := t6.next
        have k6 : ∀ k, k ≠ z9 → D6.get k = D5.get k := fun k hk => by rw [t6.get, Heap.get_put, if_neg (Ne.symm hk)]
        have gz6 : D6.get z9 = some (.cells [b0, b1, b2, m5, br, b5, b6] false) := by rw [t6.get, put_same]
        have EN6 : Ext N2 D6 := Ext.store XD5 n6 k6 (by omega) (by omega)
        refine W.keep5 3 9 10 11 14 fun T k3 k9 k10 k11 k14 => ?_
        conv at k3 => rhs; whnf
        conv at k9 => rhs; whnf
        conv at k10 => rhs; whnf
        conv at k11 => rhs; whnf
        conv at k14 => rhs; whnf
        rw [show T = (((((T.set 3 (some (T.look 3))).set 9 (some (T.look 9))).set 10 (some (T.look 10))).set 11 (some (T.look 11))).set 14 (some (T.look 14))) from rfl, k3, k9, k10, k11, k14]
        clear k3 k9 k10 k11 k14
        clear ds_ ds4
        repeat (first | (with_reducible first | refine W.region ?_) | refine W.lnS (by assumption) rfl rfl rfl rfl rfl rfl rfl rfl ?_ | refine W.opn (v := .ptr _) rfl rfl rfl ?_ | refine W.opn (v := .agg _) rfl rfl rfl ?_ | refine W.ldk (by assumption) (by first | assumption | exact Ext.refl _ | ((repeat (first | assumption | refine Ext.trans ?_ (by assumption))); done)) rfl rfl rfl rfl rfl rfl rfl rfl ?_)
        have old6 : ∀ a, a ≠ z9 → a ≠ y9 → a < K.next → (a < N2.next ∨ idOf b3 ≠ [a]) → D6.get a = K.get a := fun a h1 h2 h3 h4 => (k6 a h1).trans ((kD5 a (by omega) h4).trans ((XF.old a (by omega)).trans ((k3 a h2).trans (XD2.old a h3))))
        refine W.stn (vs := [.int .i64 6, .int .i64 3, .int .i64 (x.doors.length : Int)]) (cs' := [.int .i64 6, .int .i64 3, .int .i64 (x.doors.length : Int)]) rfl rfl rfl rfl rfl rfl ((old6 wq (by omega) (by omega) (by omega) (.inr (big _ (by omega)))).trans g9) rfl fun D7 n7 gw7 k7 => ?_
        repeat (first | (with_reducible first | refine BlockQ.normal ?_ | refine CutQ.normal ?_) | refine W.nil ?_)
        have EN7 : Ext N2 D7 := Ext.store EN6 n7 k7 (by omega) (by omega)
        have O1' := O1.ext EN7
        obtain ⟨css, r1, _⟩ := O1'.r
        have P2' : OwnR D7 K.next 7 m2 ((Tt.cut x.doors k).map Flat.enc) := P2.other (by omega) fun a ha hlt hid => (k7 a (by omega)).trans ((k6 a (by omega)).trans ((kD5 a (by omega) (.inr (big _ (by omega)))).trans ((XF.old a (by omega)).trans (k3 a (by omega)))))
        have P5' : OwnR D7 N2.next 7 m5 ((x.doors ++ [x.doors[k]]).map Flat.enc) := by
          rw [List.map_append]
          refine P5.other (by omega) fun a ha hlt hid => ?_
          rw [i5] at hid
          have hid : D4.next = a := by simpa using hid
          exact (k7 a (by omega)).trans (k6 a (by omega))
        refine ⟨rfl, rfl, rfl, ZN.trans EN7, [a0, a1, a2, m2, ar, a5, a6], [b0, b1, b2, m5, br, b5, b6], { x with doors := Tt.cut x.doors k }, { x with doors := x.doors ++ [x.doors[k]] }, ⟨6, 3, x.doors.length⟩, ⟨_, _, (k7 y9 (by omega)).trans ((k6 y9 (by omega)).trans ((kD5 y9 (by omega) (.inr (big _ (Nat.le_refl _)))).trans ((XF.old y9 (by omega)).trans gy))), by omega, rfl⟩, ⟨a1, a2, m2, ar, a5, a6, by rw [O1'.hz], O1'.o1.toSl, O1'.o2.toSl, P2'.toSl, r1.toSl, O1'.o5.toSl, O1'.o6.toSl⟩, ⟨_, _, (k7 z9 (by omega)).trans gz6, by omega, rfl⟩, (O2.doors (h' := D7) (by omega) (fun a ha h4 => (k7 a (by omega)).trans ((old6 a (by omega) (by omega) (by omega) h4).trans (EG.old a ha))) P5' (.inr ⟨_, i5, by omega⟩)).rp, ⟨_, _, gw7, by omega, rfl⟩, li.slim, li.slim, by rw [(fit.cutDoors k).make], fit.moreDoors (List.getElem_mem hk) (by omega)⟩
      · repeat (first | (with_reducible first | refine W.seq ?_ | refine W.block ?_ | refine W.region ?_ | refine W.skip ?_ | refine SeqQ.normal ?_ | refine BlockQ.normal ?_ | refine CutQ.normal ?_) | refine W.lnS (by assumption) rfl rfl rfl rfl rfl rfl rfl rfl ?_ | refine W.opn rfl op_lss rfl ?_ | refine W.opn rfl op_eql rfl ?_ | refine W.opn (v := .ptr _) rfl rfl rfl ?_ | refine W.opn (v := .bool _) rfl rfl rfl ?_ | refine W.nil ?_ | refine W.ldk (by assumption) (by first | assumption | exact Ext.refl _ | ((repeat (first | assumption | refine Ext.trans ?_ (by assumption))); done)) rfl rfl rfl rfl rfl rfl rfl rfl ?_ | refine W.cond (x := false) rfl (fun hc => by cases hc) (fun _ => ?_) | rw [decide_eq_false (by first | assumption | omega)])
        exact ⟨rfl, rfl, rfl, ZK, [a0, a1, a2, a3, ar, a5, a6], [b0, b1, b2, b3, br, b5, b6], x, x, Wrong0, ⟨_, _, g5, by omega, rfl⟩, (O1.ext ENK).rp, ⟨_, _, g6, by omega, rfl⟩, (O2.ext EG).rp, ⟨_, _, g9, by omega, rfl⟩, li.slim, li.slim, by rw [fit.make], by rw [fit.make]⟩
    · omega
  · rintro tm h' ⟨w9, w10, w11, Xh, ys, zs, y, z, want, Ly, ry, Lz, rz, Lw, sy, sz, my, mz⟩
    refine SeqQ.normal ?_
    obtain ⟨T, rfl⟩ : ∃ T : Tm, tm = (((T.set 9 (some (.ptr (some (y9, 0))))).set 10 (some (.ptr (some (z9, 0))))).set 11 (some (.ptr (some (wq, 0))))) := ⟨tm, (show tm = (((tm.set 9 (some (tm.look 9))).set 10 (some (tm.look 10))).set 11 (some (tm.look 11))) by rfl).trans (by rw [w9, w10, w11])⟩
    clear w9 w10 w11
    have ry0 := ry
    have rz0 := rz
    have hly := Rp.len ry
    have hlz := Rp.len rz
    obtain ⟨y1, y2, y3, y4, y5, y6, rfl, _⟩ := ry
    obtain ⟨z1, z2, z3, z4, z5, z6, rfl, _⟩ := rz
    repeat (first | (with_reducible first | refine W.seq ?_ | refine W.region ?_) | refine W.ldw (by assumption) (by first | assumption | exact Ext.refl _ | ((repeat (first | assumption | refine Ext.trans ?_ (by assumption))); done)) rfl rfl rfl rfl (by first | rfl | assumption) rfl rfl ?_)
    refine W.call rfl rfl rfl (make_w ry0 (rh.ext Xh) (Xh.fr fr) sy fun M1 c1 J1 r1 => ?_)
    rw [my]
    obtain ⟨u1, u2, u3, u4, u5, u6, u7, u8, u9, u10, u11, rfl, _⟩ := r1
    have Xh1 := Xh.trans J1
    have Lz1 := Lz.ext J1
    have Lw1 := Lw.ext J1
    have rz1 := Rp.ext J1 rz0
    clear Lz Lw Ly
    refine W.keep4 9 10 11 150 fun T k9 k10 k11 k150 => ?_
    conv at k9 => rhs; whnf
    conv at k10 => rhs; whnf
    conv at k11 => rhs; whnf
    conv at k150 => rhs; whnf
    rw [show T = ((((T.set 9 (some (T.look 9))).set 10 (some (T.look 10))).set 11 (some (T.look 11))).set 150 (some (T.look 150))) from rfl, k9, k10, k11, k150]
    clear k9 k10 k11 k150
    repeat (first | refine W.al rfl rfl rfl fun h_ X_ n_ g_ L_ => ?_ | refine W.opn (v := .agg _) rfl rfl rfl ?_ | refine W.opn (v := .tup _) rfl rfl rfl ?_)
    rename_i M2 j2 n2 g2 L2
    clear L2 L_
    have g2 := (X_.old M1.next (by omega)).trans g2
    refine W.stn (vs := [.int .i64 y.make.1.hz, u1, u2, u3, u4, u5, u6, u7, u8, u9, u10, u11]) (cs' := [.int .i64 y.make.1.hz, u1, u2, u3, u4, u5, u6, u7, u8, u9, u10, u11]) rfl rfl rfl rfl rfl rfl g2 rfl fun M4 m4 h4 k4 => ?_
    refine W.stn (vs := Wrong0.enc) (cs' := Wrong0.enc) rfl rfl rfl rfl rfl rfl ((k4 M2.next (by omega)).trans g_) rfl fun M5 m5 h5 k5 => ?_
    have J5 : Ext M1 M5 := Ext.store (Ext.store (j2.trans X_) m4 k4 (by omega) (by omega)) m5 k5 (by omega) (by omega)
    have L16 : LocE M5 M2.next 0 Wrong0.enc := ⟨_, _, h5, by omega, rfl⟩
    have Xh5 := Xh1.trans J5
    have Lz5 := Lz1.ext J5
    have Lw5 := Lw1.ext J5
    have rz5 := Rp.ext J5 rz1
    clear Lz1 Lw1 h5 h4 g2 g_ k4 k5 X_ j2 J5
    refine W.keep4 9 10 11 16 fun T k9 k10 k11 k16 => ?_
    conv at k9 => rhs; whnf
    conv at k10 => rhs; whnf
    conv at k11 => rhs; whnf
    conv at k16 => rhs; whnf
    rw [show T = ((((T.set 9 (some (T.look 9))).set 10 (some (T.look 10))).set 11 (some (T.look 11))).set 16 (some (T.look 16))) from rfl, k9, k10, k11, k16]
    clear k9 k10 k11 k16
    repeat (first | (with_reducible first | refine W.seq ?_ | refine W.region ?_ | refine SeqQ.normal ?_) | refine W.nil ?_ | refine W.ldw (by assumption) (by first | assumption | exact Ext.refl _ | ((repeat (first | assumption | refine Ext.trans ?_ (by assumption))); done)) rfl rfl rfl rfl (by first | rfl | assumption) rfl rfl ?_)
    refine W.call rfl rfl rfl (make_w rz5 (rh.ext Xh5) (Xh5.fr fr) sz fun N1 c2 J6 r6 => ?_)
    rw [mz]
    obtain ⟨t1, t2, t3, t4, t5, t6, t7, t8, t9, t10, t11, rfl, _⟩ := r6
    have Lw6 := Lw5.ext J6
    have L166 := L16.ext J6
    clear Lz5 Lw5 L16
    refine W.keep5 9 10 11 16 155 fun T k9 k10 k11 k16 k155 => ?_
    conv at k9 => rhs; whnf
    conv at k10 => rhs; whnf
    conv at k11 => rhs; whnf
    conv at k16 => rhs; whnf
    conv at k155 => rhs; whnf
    rw [show T = (((((T.set 9 (some (T.look 9))).set 10 (some (T.look 10))).set 11 (some (T.look 11))).set 16 (some (T.look 16))).set 155 (some (T.look 155))) from rfl, k9, k10, k11, k16, k155]
    clear k9 k10 k11 k16 k155
    repeat (first | refine W.al rfl rfl rfl fun h_ X_ n_ g_ L_ => ?_ | refine W.opn (v := .agg _) rfl rfl rfl ?_ | refine W.opn (v := .tup _) rfl rfl rfl ?_)
    rename_i N2' j7 n7 g7 L7
    clear L7 L_
    have g7 := (X_.old N1.next (by omega)).trans g7
    refine W.stn (vs := [.int .i64 z.make.1.hz, t1, t2, t3, t4, t5, t6, t7, t8, t9, t10, t11]) (cs' := [.int .i64 z.make.1.hz, t1, t2, t3, t4, t5, t6, t7, t8, t9, t10, t11]) rfl rfl rfl rfl rfl rfl g7 rfl fun N4 m4 h4 k4 => ?_
    refine W.stn (vs := want.enc) (cs' := want.enc) rfl rfl rfl rfl rfl rfl ((k4 N2'.next (by omega)).trans g_) rfl fun N5 m5 h5 k5 => ?_
    have J8 : Ext N1 N5 := Ext.store (Ext.store (j7.trans X_) m4 k4 (by omega) (by omega)) m5 k5 (by omega) (by omega)
    have L18 : LocE N5 N2'.next 0 want.enc := ⟨_, _, h5, by omega, rfl⟩
    have Lw8 := Lw6.ext J8
    have L168 := L166.ext J8
    clear h4 h5 g7 g_ k4 k5 X_ j7 Lw6 L166
    refine W.keep3 11 16 18 fun T k11 k16 k18 => ?_
    conv at k11 => rhs; whnf
    conv at k16 => rhs; whnf
    conv at k18 => rhs; whnf
    rw [show T = (((T.set 11 (some (T.look 11))).set 16 (some (T.look 16))).set 18 (some (T.look 18))) from rfl, k11, k16, k18]
    clear k11 k16 k18
    repeat (first | (with_reducible first | refine W.seq ?_ | refine W.region ?_ | refine SeqQ.normal ?_) | refine W.opn (v := .bool _) rfl rfl rfl ?_ | refine W.opn (v := .agg _) rfl rfl rfl ?_ | refine W.nil ?_ | refine W.ldw (by assumption) (by first | assumption | exact Ext.refl _ | ((repeat (first | assumption | refine Ext.trans ?_ (by assumption))); done)) rfl rfl rfl rfl (by first | rfl | assumption) rfl rfl ?_)
    refine W.opn rfl (op_wr (d := want)) rfl ?_
    repeat (first | (with_reducible first | refine W.ret ?_ | refine SeqQ.normal ?_) | refine W.opn (v := .bool _) rfl rfl rfl ?_ | refine W.nil ?_)
    exact ⟨_, rfl⟩
end
end Go.Proofs.YtmgpjfnlciapkaaDoor
