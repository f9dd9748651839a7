/- A stop more, and a path more, change nothing else: the law's own function. No condition but that the table of spaces lies where it does and memory beyond the next number is empty. -/
import Derived.Test.YtmgpjfnlciapkaaGreatDoorYZ
import Derived.Test.YtmgpjfnlciapkaaGreatDoorZC
import Derived.Test.YtmgpjfnlciapkaaGreatDoorZI
import Derived.Test.YtmgpjfnlciapkaaGreatDoorZN
import Derived.Test.YtmgpjfnlciapkaaGreatDoorZQ
import Derived.Test.YtmgpjfnlciapkaaGreatDoorZR
set_option linter.unusedVariables false
set_option linter.unusedSimpArgs false
namespace Go.Proofs.YtmgpjfnlciapkaaGreatDoor
open Go Go.CM Go.CM.Tt
noncomputable section
set_option maxHeartbeats 40000000
set_option maxRecDepth 100000
theorem more_w {h : Heap} {tm : Tm} {cs : List CV} {x : SheetD} (r : Rp.R h cs x) (rh : RH h) (fr : Fresh h) (s : Str) (n : Int) : W E1 (.call (.fn 3 [] []) [.agg cs, .str s, .int .i64 n]) tm h (fun r => ∃ h', r = .val (.bool true) h') := by
  have r0 := r
  obtain ⟨v1, v2, v3, v4, v5, v6, rfl, s1, s2, s3, s4, s5, s6⟩ := r
  refine W.fn (s := fnOf Tryz.f3) rfl rfl rfl rfl ?_
  repeat (refine W.seq ?_)
  refine W.region ?_
  refine W.box rfl rfl rfl fun H1 X1 n1 g1 L1 => ?_
  repeat (first | (with_reducible first | refine W.seq ?_ | refine W.region ?_ | refine SeqQ.normal ?_) | refine W.opn (v := .bool _) rfl rfl rfl ?_ | refine W.nil ?_)
  refine W.call rfl rfl rfl (W.known rfl (rh.ext X1).1 ?_)
  repeat (first | (with_reducible first | refine W.seq ?_ | refine W.region ?_ | refine W.skip ?_ | refine SeqQ.normal ?_ | refine CallQ.val ?_) | refine W.opn (v := .bool _) rfl rfl rfl ?_ | refine W.nil ?_ | refine W.ldw (by assumption) (by (repeat (first | assumption | exact Ext.refl _ | refine Ext.trans ?_ (by assumption))); done) rfl rfl rfl rfl (by first | rfl | assumption) rfl rfl ?_ | refine W.cond (x := false) rfl (fun hc => by cases hc) (fun _ => ?_))
  refine W.call rfl rfl rfl (lightSheet_w (Rp.ext X1 r0) fun H2 b X2 hb => ?_)
  have Y2 := X1.trans X2
  have L2 := L1.ext X2
  cases b
  · repeat (first | (with_reducible first | refine W.seq ?_ | refine W.region ?_ | refine W.ret ?_ | refine SeqQ.normal ?_ | refine SeqQ.ret ?_ | refine CallQ.val ?_) | refine W.offn rfl rfl ?_ | refine W.opn (v := .bool _) rfl rfl rfl ?_ | refine W.nil ?_ | refine W.cond (x := true) rfl (fun _ => ?_) (fun hc => by cases hc))
    exact ⟨_, rfl⟩
  have li := hb.1 rfl
  by_cases d1 : 12 < s.length
  · repeat (first | (with_reducible first | refine W.seq ?_ | refine W.region ?_ | refine W.ret ?_ | refine SeqQ.normal ?_ | refine SeqQ.ret ?_ | refine CallQ.val ?_) | refine W.offn rfl rfl ?_ | refine W.lns rfl rfl rfl rfl rfl rfl rfl rfl ?_ | refine W.opn rfl op_lss rfl ?_ | refine W.opn (v := .bool _) rfl rfl rfl ?_ | refine W.opn rfl rfl rfl ?_ | refine W.nil ?_ | refine W.cond (x := true) rfl (fun _ => ?_) (fun hc => by cases hc) | rw [decide_eq_true (by first | assumption | omega)])
    exact ⟨_, rfl⟩
  by_cases d2 : n < 1
  · repeat (first | (with_reducible first | refine W.seq ?_ | refine W.region ?_ | refine W.ret ?_ | refine SeqQ.normal ?_ | refine SeqQ.ret ?_ | refine CallQ.val ?_) | refine W.offn rfl rfl ?_ | refine W.lns rfl rfl rfl rfl rfl rfl rfl rfl ?_ | refine W.opn rfl op_lss rfl ?_ | refine W.opn (v := .int _ _) rfl rfl rfl ?_ | refine W.opn (v := .bool _) rfl rfl rfl ?_ | refine W.opn rfl rfl rfl ?_ | refine W.nil ?_ | refine W.cond (x := true) rfl (fun _ => ?_) (fun hc => by cases hc) | rw [decide_eq_true (by first | assumption | omega)] | rw [decide_eq_false (by first | assumption | omega)])
    exact ⟨_, rfl⟩
  by_cases d3 : 1000 < n
  · repeat (first | (with_reducible first | refine W.seq ?_ | refine W.region ?_ | refine W.ret ?_ | refine SeqQ.normal ?_ | refine SeqQ.ret ?_ | refine CallQ.val ?_) | refine W.lns rfl rfl rfl rfl rfl rfl rfl rfl ?_ | refine W.opn rfl op_lss rfl ?_ | refine W.opn (v := .int _ _) rfl rfl rfl ?_ | refine W.opn (v := .bool _) rfl rfl rfl ?_ | refine W.opn rfl rfl rfl ?_ | refine W.nil ?_ | refine W.cond (x := true) rfl (fun _ => ?_) (fun hc => by cases hc) | rw [decide_eq_true (by first | assumption | omega)] | rw [decide_eq_false (by first | assumption | omega)])
    exact ⟨_, rfl⟩
  refine W.keep5 1 2 3 6 23 fun T k1 k2 k3 k6 k23 => ?_
  conv at k1 => rhs; whnf
  conv at k2 => rhs; whnf
  conv at k3 => rhs; whnf
  conv at k6 => rhs; whnf
  conv at k23 => rhs; whnf
  rw [show T = (((((T.set 1 (some (T.look 1))).set 2 (some (T.look 2))).set 3 (some (T.look 3))).set 6 (some (T.look 6))).set 23 (some (T.look 23))) from rfl, k1, k2, k3, k6, k23]
  clear k1 k2 k3 k6 k23
  clear hb L1
  repeat (first | (with_reducible first | refine W.seq ?_ | refine W.region ?_ | refine W.skip ?_ | refine SeqQ.normal ?_) | refine W.lns rfl rfl rfl rfl rfl rfl rfl rfl ?_ | refine W.opn rfl op_lss rfl ?_ | refine W.opn (v := .int _ _) rfl rfl rfl ?_ | refine W.opn (v := .bool _) rfl rfl rfl ?_ | refine W.opn rfl rfl rfl ?_ | refine W.nil ?_ | refine W.ldw (by assumption) (by (repeat (first | assumption | exact Ext.refl _ | refine Ext.trans ?_ (by assumption))); done) rfl rfl rfl rfl (by first | rfl | assumption) rfl rfl ?_ | refine W.cond (x := false) rfl (fun hc => by cases hc) (fun _ => ?_) | rw [decide_eq_false (by first | assumption | omega)])
  refine W.call rfl rfl rfl (make_w (Rp.ext Y2 r0) (rh.ext Y2) (Y2.fr fr) li.slim fun H3 c3 X3 r3 => ?_)
  obtain ⟨cw, hcw⟩ : ∃ cw, cw = c3 := ⟨_, rfl⟩
  have r30 := r3
  obtain ⟨u1, u2, u3, u4, u5, u6, u7, u8, u9, u10, u11, rfl, _⟩ := r3
  have Y3 := Y2.trans X3
  have L3 := L2.ext X3
  refine W.keep5 1 2 3 6 40 fun T k1 k2 k3 k6 k40 => ?_
  conv at k1 => rhs; whnf
  conv at k2 => rhs; whnf
  conv at k3 => rhs; whnf
  conv at k6 => rhs; whnf
  conv at k40 => rhs; whnf
  rw [show T = (((((T.set 1 (some (T.look 1))).set 2 (some (T.look 2))).set 3 (some (T.look 3))).set 6 (some (T.look 6))).set 40 (some (T.look 40))) from rfl, k1, k2, k3, k6, k40]
  clear k1 k2 k3 k6 k40
  clear L2
  repeat (first | refine W.al rfl rfl rfl fun h_ X_ n_ g_ L_ => ?_ | refine W.opn (v := .agg _) rfl rfl rfl ?_ | refine W.opn (v := .tup _) rfl rfl rfl ?_)
  rename_i H4 X4 n4 g4 L4
  clear L4 L_
  refine W.stn (vs := [.int .i64 x.make.1.hz, u1, u2, u3, u4, u5, u6, u7, u8, u9, u10, u11]) (cs' := [.int .i64 x.make.1.hz, u1, u2, u3, u4, u5, u6, u7, u8, u9, u10, u11]) rfl rfl rfl rfl rfl rfl ((X_.old H3.next (by omega)).trans g4) rfl fun H5 n5 g5 k5 => ?_
  refine W.stn (vs := x.make.2.enc) (cs' := x.make.2.enc) rfl rfl rfl rfl rfl rfl ((k5 H4.next (by omega)).trans g_) rfl fun H6 n6 g6 k6 => ?_
  have Lw : LocE H6 H3.next 0 [.int .i64 x.make.1.hz, u1, u2, u3, u4, u5, u6, u7, u8, u9, u10, u11] := ⟨_, _, (k6 _ (by omega)).trans g5, by omega, rfl⟩
  have Le : LocE H6 H4.next 0 x.make.2.enc := ⟨_, _, g6, by omega, rfl⟩
  have Y6 : Ext H3 H6 := Ext.store (Ext.store (X4.trans X_) n5 k5 (by omega) (by omega)) n6 k6 (by omega) (by omega)
  have L1 := L3.ext Y6
  have Z6 := Y3.trans Y6
  have rw6 := Rp.ext Y6 r30
  obtain ⟨c7, hc7⟩ : ∃ c7, c7 = H3.next := ⟨_, rfl⟩
  rw [← hc7] at Lw ⊢
  obtain ⟨hz0, hhz⟩ : ∃ z, z = x.make.1.hz := ⟨_, rfl⟩
  rw [← hhz] at Lw rw6
  clear g4 X4 X_ g_ n_ g5 k5 n5 g6 k6 n6 L3 r30 hcw
  by_cases e0 : ¬ x.make.2.err = 0
  · repeat (first | (with_reducible first | refine W.seq ?_ | refine W.region ?_ | refine W.ret ?_ | refine SeqQ.normal ?_ | refine SeqQ.ret ?_) | refine W.opn rfl op_neq rfl ?_ | refine W.opn (v := .ptr _) rfl rfl rfl ?_ | refine W.opn (v := .bool _) rfl rfl rfl ?_ | refine W.nil ?_ | refine W.ldk (by assumption) (by (repeat (first | assumption | exact Ext.refl _ | refine Ext.trans ?_ (by assumption))); done) rfl rfl rfl rfl rfl rfl rfl rfl ?_ | refine W.cond (x := true) rfl (fun _ => ?_) (fun hc => by cases hc) | rw [decide_eq_true (by first | assumption | omega)])
    exact ⟨_, rfl⟩
  have e : x.make.2.err = 0 := Decidable.not_not.1 e0
  clear e0
  have fit := fit_of_make e
  have em := fit.make
  rw [em] at rw6
  have rw6 : Rp.R H6 [.int .i64 hz0, u1, u2, u3, u4, u5, u6, u7, u8, u9, u10, u11] x.num := rw6
  have shn : ∀ l ∈ x.num.names.lists, l.length ≤ 1099511627776 := fun l hl => by
    have := len_le_flatten hl
    have := fit.ok.numFew
    omega
  repeat (first | (with_reducible first | refine W.seq ?_ | refine W.region ?_ | refine W.skip ?_ | refine SeqQ.normal ?_) | refine W.opn rfl op_neq rfl ?_ | refine W.opn (v := .ptr _) rfl rfl rfl ?_ | refine W.opn rfl rfl rfl ?_ | refine W.nil ?_ | refine W.ldk (by assumption) (by (repeat (first | assumption | exact Ext.refl _ | refine Ext.trans ?_ (by assumption))); done) rfl rfl rfl rfl rfl rfl rfl rfl ?_ | refine W.ldw (by assumption) (by (repeat (first | assumption | exact Ext.refl _ | refine Ext.trans ?_ (by assumption))); done) rfl rfl rfl rfl (by first | rfl | assumption) rfl rfl ?_ | refine W.cond (x := false) rfl (fun hc => by cases hc) (fun _ => ?_) | rw [decide_eq_false (by first | assumption | omega)])
  refine W.keep6 1 2 3 7 47 48 fun T k1 k2 k3 k7 k47 k48 => ?_
  conv at k1 => rhs; whnf
  conv at k2 => rhs; whnf
  conv at k3 => rhs; whnf
  conv at k7 => rhs; whnf
  conv at k47 => rhs; whnf
  conv at k48 => rhs; whnf
  rw [show T = ((((((T.set 1 (some (T.look 1))).set 2 (some (T.look 2))).set 3 (some (T.look 3))).set 7 (some (T.look 7))).set 47 (some (T.look 47))).set 48 (some (T.look 48))) from rfl, k1, k2, k3, k7, k47, k48]
  clear k1 k2 k3 k7 k47 k48
  clear Le
  refine W.call rfl rfl rfl (find_w (Z6.fr fr) rw6 s shn fun H7 X7 => ?_)
  have Z7 := Z6.trans X7
  have L1 := L1.ext X7
  have Lw := Lw.ext X7
  have rw7 := Rp.ext X7 rw6
  have L1_7 := L1
  refine W.keep5 1 2 3 7 49 fun T k1 k2 k3 k7 k49 => ?_
  conv at k1 => rhs; whnf
  conv at k2 => rhs; whnf
  conv at k3 => rhs; whnf
  conv at k7 => rhs; whnf
  conv at k49 => rhs; whnf
  rw [show T = (((((T.set 1 (some (T.look 1))).set 2 (some (T.look 2))).set 3 (some (T.look 3))).set 7 (some (T.look 7))).set 49 (some (T.look 49))) from rfl, k1, k2, k3, k7, k49]
  clear k1 k2 k3 k7 k49
  repeat (first | (with_reducible first | refine W.seq ?_ | refine W.region ?_ | refine SeqQ.normal ?_) | refine W.opn (v := .int _ _) rfl rfl rfl ?_ | refine W.opn (v := .tup _) rfl rfl rfl ?_ | refine W.nil ?_ | refine W.ldw (by assumption) (by (repeat (first | assumption | exact Ext.refl _ | refine Ext.trans ?_ (by assumption))); done) rfl rfl rfl rfl (by first | rfl | assumption) rfl rfl ?_)
  refine W.call rfl rfl rfl (ownSheet_w (Rp.ext Z7 r0) (Z7.fr fr) fit.ok.1 li.slim fun G1 n0 m1 m2 m3 mr m5 m6 F1 O => ?_)
  refine W.keep6 1 2 3 7 9 53 fun T k1 k2 k3 k7 k9 k53 => ?_
  conv at k1 => rhs; whnf
  conv at k2 => rhs; whnf
  conv at k3 => rhs; whnf
  conv at k7 => rhs; whnf
  conv at k9 => rhs; whnf
  conv at k53 => rhs; whnf
  rw [show T = ((((((T.set 1 (some (T.look 1))).set 2 (some (T.look 2))).set 3 (some (T.look 3))).set 7 (some (T.look 7))).set 9 (some (T.look 9))).set 53 (some (T.look 53))) from rfl, k1, k2, k3, k7, k9, k53]
  clear k1 k2 k3 k7 k9 k53
  repeat (first | (with_reducible first | refine W.seq ?_ | refine W.region ?_ | refine SeqQ.normal ?_) | refine W.var rfl rfl rfl rfl rfl rfl rfl rfl rfl (by first | rfl | assumption) rfl fun h_ X_ n_ g_ L_ => ?_ | refine W.bs1 rfl rfl rfl rfl fun h_ X_ n_ g_ S_ => ?_ | refine W.opn (v := .ptr _) rfl rfl rfl ?_ | refine W.opn rfl rfl rfl ?_ | refine W.nil ?_ | refine W.ldk (by assumption) (by (repeat (first | assumption | exact Ext.refl _ | refine Ext.trans ?_ (by assumption))); done) rfl rfl rfl rfl rfl rfl rfl rfl ?_)
  rename_i K XK nK gK
  clear L_
  have I1 := OwnR.ids O.o1
  obtain ⟨b11, hb11⟩ : ∃ b, b = G1.next := ⟨_, rfl⟩
  rw [← hb11] at gK I1 ⊢
  have hF := F1.next
  have S_ : SlG h_ 1 (.slice (some (K.next, 0)) 1 1 0) [Flat.enc s] := S_
  refine W.apR2 (H := H7) (z := 1) (l2 := [Flat.enc s]) ((F1.trans XK).trans X_) (O.o1.ext (XK.trans X_)) S_ (by simp) rfl rfl rfl rfl rfl rfl rfl rfl rfl rfl rfl rfl (by
    rw [List.length_map]
    have := li.1
    show (_ + 1) * 16 ≤ _
    omega) fun v' D1 XD OD kD nD iD => ?_
  have bne : ∀ a, b11 ≤ a → idOf m1 ≠ [a] := fun a ha e => by have := (I1 a (by rw [e]; simp)).2; omega
  obtain ⟨pv, nv, cv, xv, ev⟩ := OD.form
  have hcells : v'.cells = some [v'] := by rw [ev]; rfl
  rw [ev]
  repeat (first | refine W.opn (v := .ptr _) rfl rfl rfl ?_)
  rw [← ev]
  refine W.stn (vs := [v']) (cs' := [n0, v', m2, m3, mr, m5, m6]) rfl rfl rfl hcells rfl rfl ((kD b11 (by omega) (bne _ (Nat.le_refl _))).trans ((X_.old b11 (by omega)).trans gK)) rfl fun D2 n2 gD2 k2 => ?_
  have E2 : Ext H7 D2 := Ext.store XD n2 k2 (by omega) (by omega)
  have OB : OwnSB K H7.next b11 n0 m1 m2 m3 mr m5 m6 x := O.box XK hF (by omega) (by omega)
  have OB2 : OwnSB D1 H7.next b11 n0 v' m2 m3 mr m5 m6 (x.stop s) := (OB.ext X_).stops (h' := D1) (l := x.stops ++ [s]) (by omega) (fun a ha h4 => kD a ha (by
    rcases h4 with h4 | h4
    · exact fun e => by have := (I1 a (by rw [e]; simp)).1; omega
    · exact h4)) (by rw [List.map_append]; exact OD) (.inr ⟨_, iD, Nat.le_refl _⟩)
  have O2 : OwnSB D2 H7.next b11 n0 v' m2 m3 mr m5 m6 (x.stop s) := OB2.put n2 k2
  have gy : D2.get b11 = some (.cells [n0, v', m2, m3, mr, m5, m6] false) := gD2
  have Ly : LocE D2 b11 0 [n0, v', m2, m3, mr, m5, m6] := ⟨_, _, gD2, by omega, rfl⟩
  have Z2 := Z7.trans E2
  have L1 := L1.ext E2
  have Lw := Lw.ext E2
  have rw8 := Rp.ext E2 rw7
  clear X_ g_ n_ S_ kD OD gK XK XD k2 gD2 OB OB2
  refine W.keep6 1 2 3 7 9 11 fun T k1 k2 k3 k7 k9 k11 => ?_
  conv at k1 => rhs; whnf
  conv at k2 => rhs; whnf
  conv at k3 => rhs; whnf
  conv at k7 => rhs; whnf
  conv at k9 => rhs; whnf
  conv at k11 => rhs; whnf
  rw [show T = ((((((T.set 1 (some (T.look 1))).set 2 (some (T.look 2))).set 3 (some (T.look 3))).set 7 (some (T.look 7))).set 9 (some (T.look 9))).set 11 (some (T.look 11))) from rfl, k1, k2, k3, k7, k9, k11]
  clear k1 k2 k3 k7 k9 k11
  repeat (first | (with_reducible first | refine W.seq ?_ | refine W.region ?_ | refine SeqQ.normal ?_) | refine W.nil ?_ | refine W.ldw (by assumption) (by (repeat (first | assumption | exact Ext.refl _ | refine Ext.trans ?_ (by assumption))); done) rfl rfl rfl rfl (by first | rfl | assumption) rfl rfl ?_)
  have sl2 : (x.stop s).slim := li.slim
  refine W.call rfl rfl rfl (make_w O2.rp (rh.ext Z2) (Z2.fr fr) sl2 fun M1 cv1 J1 r1 => ?_)
  have r10 := r1
  obtain ⟨w1, w2, w3, w4, w5, w6, w7, w8, w9, w10, w11, rfl, _⟩ := r1
  have J0 := Z2.trans J1
  have L1 := L1.ext J1
  have Lw := Lw.ext J1
  have Ly := Ly.ext J1
  have rw9 := Rp.ext J1 rw8
  have O3 := O2.ext J1
  refine W.keep7 1 2 3 7 9 11 62 fun T k1 k2 k3 k7 k9 k11 k62 => ?_
  conv at k1 => rhs; whnf
  conv at k2 => rhs; whnf
  conv at k3 => rhs; whnf
  conv at k7 => rhs; whnf
  conv at k9 => rhs; whnf
  conv at k11 => rhs; whnf
  conv at k62 => rhs; whnf
  rw [show T = (((((((T.set 1 (some (T.look 1))).set 2 (some (T.look 2))).set 3 (some (T.look 3))).set 7 (some (T.look 7))).set 9 (some (T.look 9))).set 11 (some (T.look 11))).set 62 (some (T.look 62))) from rfl, k1, k2, k3, k7, k9, k11, k62]
  clear k1 k2 k3 k7 k9 k11 k62
  repeat (first | refine W.al rfl rfl rfl fun h_ X_ n_ g_ L_ => ?_ | refine W.opn (v := .agg _) rfl rfl rfl ?_ | refine W.opn (v := .tup _) rfl rfl rfl ?_)
  rename_i M2 j2 q2 y2 L2
  clear L2 L_
  have y2 := (X_.old M1.next (by omega)).trans y2
  refine W.stn (vs := [.int .i64 (x.stop s).make.1.hz, w1, w2, w3, w4, w5, w6, w7, w8, w9, w10, w11]) (cs' := [.int .i64 (x.stop s).make.1.hz, w1, w2, w3, w4, w5, w6, w7, w8, w9, w10, w11]) rfl rfl rfl rfl rfl rfl y2 rfl fun M4 m4' h4 k4 => ?_
  refine W.stn (vs := (x.stop s).make.2.enc) (cs' := (x.stop s).make.2.enc) rfl rfl rfl rfl rfl rfl ((k4 M2.next (by omega)).trans g_) rfl fun M5 m5' h5 k5 => ?_
  have J5 : Ext M1 M5 := Ext.store (Ext.store (j2.trans X_) m4' k4 (by omega) (by omega)) m5' k5 (by omega) (by omega)
  have Lv : LocE M5 M1.next 0 [.int .i64 (x.stop s).make.1.hz, w1, w2, w3, w4, w5, w6, w7, w8, w9, w10, w11] := ⟨_, _, (k5 _ (by omega)).trans h4, by omega, rfl⟩
  have Lf : LocE M5 M2.next 0 (x.stop s).make.2.enc := ⟨_, _, h5, by omega, rfl⟩
  have J00 := J0.trans J5
  have L1 := L1.ext J5
  have Lw := Lw.ext J5
  have Ly := Ly.ext J5
  have rw9 := Rp.ext J5 rw9
  have rv := Rp.ext J5 r10
  have O4 := O3.ext J5
  clear X_ j2 y2 g_ h4 h5 k4 k5
  refine W.keep8 1 2 3 7 9 11 12 13 fun T k1 k2 k3 k7 k9 k11 k12 k13 => ?_
  conv at k1 => rhs; whnf
  conv at k2 => rhs; whnf
  conv at k3 => rhs; whnf
  conv at k7 => rhs; whnf
  conv at k9 => rhs; whnf
  conv at k11 => rhs; whnf
  conv at k12 => rhs; whnf
  conv at k13 => rhs; whnf
  rw [show T = ((((((((T.set 1 (some (T.look 1))).set 2 (some (T.look 2))).set 3 (some (T.look 3))).set 7 (some (T.look 7))).set 9 (some (T.look 9))).set 11 (some (T.look 11))).set 12 (some (T.look 12))).set 13 (some (T.look 13))) from rfl, k1, k2, k3, k7, k9, k11, k12, k13]
  clear k1 k2 k3 k7 k9 k11 k12 k13
  by_cases hk : (x.num.names.find s).1 = 0
  · have hs : s ∉ x.names.lists.flatten := NamesD.find_zero.1 hk
    by_cases e1 : (x.stop s).make.2.err = 0
    · have fz := fit_of_make e1
      have emz := fz.make
      rw [emz] at rv
      obtain ⟨hz1, hhz1⟩ : ∃ z, z = (x.stop s).make.1.hz := ⟨_, rfl⟩
      rw [← hhz1] at Lv
      have rv : Rp.R M5 [.int .i64 hz1, w1, w2, w3, w4, w5, w6, w7, w8, w9, w10, w11] (x.stop s).num := by rw [hhz1, emz]; exact rv
      have shz : ∀ l ∈ (x.stop s).num.names.lists, l.length ≤ 1099511627776 := fun l hl => by
        have := len_le_flatten hl
        have := fz.ok.numFew
        omega
      repeat (first | (with_reducible first | refine W.seq ?_ | refine W.region ?_ | refine W.skip ?_ | refine SeqQ.normal ?_) | refine W.lnS (by assumption) rfl rfl rfl rfl rfl rfl rfl rfl ?_ | refine W.opn rfl op_neq rfl ?_ | refine W.opn (v := .int _ _) rfl rfl rfl ?_ | refine W.opn (v := .ptr _) rfl rfl rfl ?_ | refine W.opn rfl rfl rfl ?_ | refine W.nil ?_ | refine W.ldk (by assumption) (by (repeat (first | assumption | exact Ext.refl _ | refine Ext.trans ?_ (by assumption))); done) rfl rfl rfl rfl rfl rfl rfl rfl ?_ | refine W.ldw (by assumption) (by (repeat (first | assumption | exact Ext.refl _ | refine Ext.trans ?_ (by assumption))); done) rfl rfl rfl rfl (by first | rfl | assumption) rfl rfl ?_ | refine W.cond (x := false) rfl (fun hc => by cases hc) (fun _ => ?_) | rw [decide_eq_false (by first | assumption | omega)])
      refine W.call rfl rfl rfl (find_w (J00.fr fr) rv s shz fun N1 K1 => ?_)
      rw [stopFind hs]
      have K00 := J00.trans K1
      have L1 := L1.ext K1
      have Lw := Lw.ext K1
      have Ly := Ly.ext K1
      have Lv := Lv.ext K1
      have rw10 := Rp.ext K1 rw9
      have rv2 := Rp.ext K1 rv
      have O5 := O4.ext K1
      refine W.keep8 1 2 3 7 11 12 14 82 fun T k1 k2 k3 k7 k11 k12 k14 k82 => ?_
      conv at k1 => rhs; whnf
      conv at k2 => rhs; whnf
      conv at k3 => rhs; whnf
      conv at k7 => rhs; whnf
      conv at k11 => rhs; whnf
      conv at k12 => rhs; whnf
      conv at k14 => rhs; whnf
      conv at k82 => rhs; whnf
      rw [show T = ((((((((T.set 1 (some (T.look 1))).set 2 (some (T.look 2))).set 3 (some (T.look 3))).set 7 (some (T.look 7))).set 11 (some (T.look 11))).set 12 (some (T.look 12))).set 14 (some (T.look 14))).set 82 (some (T.look 82))) from rfl, k1, k2, k3, k7, k11, k12, k14, k82]
      clear k1 k2 k3 k7 k11 k12 k14 k82
      repeat (first | (with_reducible first | refine W.seq ?_ | refine W.region ?_ | refine SeqQ.normal ?_) | refine W.opn (v := .int _ _) rfl rfl rfl ?_ | refine W.opn (v := .tup _) rfl rfl rfl ?_ | refine W.nil ?_ | refine W.ldw (by assumption) (by (repeat (first | assumption | exact Ext.refl _ | refine Ext.trans ?_ (by assumption))); done) rfl rfl rfl rfl (by first | rfl | assumption) rfl rfl ?_)
      refine W.call rfl rfl rfl (ownWorld_w rw10 (K00.fr fr) fit.ok.numSmall fun N2 hq a1 a2 a3 a4 a5 a6 ap ad ar at' az K2 OW => ?_)
      have I7 : Ext D2 N1 := (J1.trans J5).trans K1
      clear Lw rw10 rw9 rw8
      refine W.keep9 1 2 3 11 12 14 15 16 86 fun T k1 k2 k3 k11 k12 k14 k15 k16 k86 => ?_
      conv at k1 => rhs; whnf
      conv at k2 => rhs; whnf
      conv at k3 => rhs; whnf
      conv at k11 => rhs; whnf
      conv at k12 => rhs; whnf
      conv at k14 => rhs; whnf
      conv at k15 => rhs; whnf
      conv at k16 => rhs; whnf
      conv at k86 => rhs; whnf
      rw [show T = (((((((((T.set 1 (some (T.look 1))).set 2 (some (T.look 2))).set 3 (some (T.look 3))).set 11 (some (T.look 11))).set 12 (some (T.look 12))).set 14 (some (T.look 14))).set 15 (some (T.look 15))).set 16 (some (T.look 16))).set 86 (some (T.look 86))) from rfl, k1, k2, k3, k11, k12, k14, k15, k16, k86]
      clear k1 k2 k3 k11 k12 k14 k15 k16 k86
      repeat (first | (with_reducible first | refine W.seq ?_ | refine W.region ?_ | refine SeqQ.normal ?_) | refine W.var rfl rfl rfl rfl rfl rfl rfl rfl rfl (by first | rfl | assumption) rfl fun h_ X_ n_ g_ L_ => ?_ | refine W.opn (v := .ptr _) rfl rfl rfl ?_ | refine W.nil ?_)
      have La : LocE h_ N2.next (0 + 1) [a1, a2, a3, a4, a5, a6] := LocE.sub (k := 1) (m := 6) L_ rfl
      repeat (first | refine W.bs1 rfl rfl rfl rfl fun h_ X_ n_ g_ S_ => ?_ | refine W.opn rfl rfl rfl ?_ | refine W.ldk (by assumption) (by (repeat (first | assumption | exact Ext.refl _ | refine Ext.trans ?_ (by assumption))); done) rfl rfl rfl rfl rfl rfl rfl rfl ?_)
      rename_i K XK nK gK
      clear L_ La
      obtain ⟨wq, hwq⟩ : ∃ b, b = N2.next := ⟨_, rfl⟩
      rw [← hwq] at gK ⊢
      have IW := OwnR.ids OW.own_nstops
      have hK2 := K2.next
      have S_ : SlG h_ 1 (.slice (some (K.next, 0)) 1 1 0) [Flat.enc s] := S_
      refine W.apR2 (H := N1) (z := 1) (l2 := [Flat.enc s]) ((K2.trans XK).trans X_) (OW.own_nstops.ext (XK.trans X_)) S_ (by simp) rfl rfl rfl rfl rfl rfl rfl rfl rfl rfl rfl rfl (by
        rw [List.length_map]
        have := li.1
        show (x.stops.length + 1) * 16 ≤ _
        omega) fun vw D1 XD OD kD nD iD => ?_
      obtain ⟨pv, nv, cv, xv, ev⟩ := OD.form
      have hcells : vw.cells = some [vw] := by rw [ev]; rfl
      have bne : idOf a1 ≠ [wq] := fun e => by have := (IW wq (by rw [e]; simp)).2; omega
      rw [ev]
      repeat (first | refine W.opn (v := .ptr _) rfl rfl rfl ?_)
      rw [← ev]
      refine W.stn (vs := [vw]) (cs' := [hq, vw, a2, a3, a4, a5, a6, ap, ad, ar, at', az]) rfl rfl rfl hcells rfl rfl ((kD wq (by omega) bne).trans ((X_.old wq (by omega)).trans gK)) rfl fun F2 n2 gF2 k2 => ?_
      have gF2 : F2.get wq = some (.cells [hq, vw, a2, a3, a4, a5, a6, ap, ad, ar, at', az] false) := gF2
      have Q2 : Ext N1 F2 := Ext.store XD n2 k2 (by omega) (by omega)
      have hp : s ∉ x.names.paths := fun h => hs (List.mem_flatten.2 ⟨_, by simp [NamesD.lists], h⟩)
      have OW1 : OwnWB K N1.next wq hq a1 a2 a3 a4 a5 a6 ap ad ar at' az x.num := OW.box XK hK2 (by omega) (by omega)
      have OW1 := (OW1.ext X_).nstops (h' := D1) (l := x.stops ++ [s]) (u := vw) (by omega) (fun a ha h4 => kD a ha (by
        rcases h4 with h4 | h4
        · exact fun e => by have := (IW a (by rw [e]; simp)).1; omega
        · exact h4)) (by rw [List.map_append]; exact OD) (.inr ⟨_, iD, Nat.le_refl _⟩)
      have OW2 : OwnWB F2 N1.next wq hq vw a2 a3 a4 a5 a6 ap ad ar at' az (x.stop s).num := by
        rw [fit.stopNum hp]
        exact OW1.put n2 k2
      have Lq : LocE F2 wq 0 [hq, vw, a2, a3, a4, a5, a6, ap, ad, ar, at', az] := ⟨_, _, gF2, by omega, rfl⟩
      have K02 := K00.trans Q2
      have L1 := L1.ext Q2
      have Ly := Ly.ext Q2
      have Lv := Lv.ext Q2
      have rv3 := Rp.ext Q2 rv2
      have O6 := O5.ext Q2
      clear X_ g_ n_ S_ kD OD gK XK XD k2 ev OW IW bne OW1
      refine W.keep9 1 2 3 11 12 14 15 16 17 fun T k1 k2 k3 k11 k12 k14 k15 k16 k17 => ?_
      conv at k1 => rhs; whnf
      conv at k2 => rhs; whnf
      conv at k3 => rhs; whnf
      conv at k11 => rhs; whnf
      conv at k12 => rhs; whnf
      conv at k14 => rhs; whnf
      conv at k15 => rhs; whnf
      conv at k16 => rhs; whnf
      conv at k17 => rhs; whnf
      rw [show T = (((((((((T.set 1 (some (T.look 1))).set 2 (some (T.look 2))).set 3 (some (T.look 3))).set 11 (some (T.look 11))).set 12 (some (T.look 12))).set 14 (some (T.look 14))).set 15 (some (T.look 15))).set 16 (some (T.look 16))).set 17 (some (T.look 17))) from rfl, k1, k2, k3, k11, k12, k14, k15, k16, k17]
      clear k1 k2 k3 k11 k12 k14 k15 k16 k17
      repeat (first | (with_reducible first | refine W.seq ?_ | refine W.region ?_ | refine SeqQ.normal ?_) | refine W.opn rfl op_neq rfl ?_ | refine W.opn (v := .int _ _) rfl rfl rfl ?_ | refine W.opn (v := .bool _) rfl rfl rfl ?_ | refine W.nil ?_ | refine W.ldw (by assumption) (by (repeat (first | assumption | exact Ext.refl _ | refine Ext.trans ?_ (by assumption))); done) rfl rfl rfl rfl (by first | rfl | assumption) rfl rfl ?_ | rw [decide_eq_false (by first | assumption | omega)])
      refine W.call rfl rfl rfl (world_w (K02.fr fr) rv3 OW2.rp (SheetD.num_short fz.ok) fun G1 V1 => ?_)
      have Z9 := K02.trans V1
      have L1 := L1.ext V1
      have Ly := Ly.ext V1
      have Lq := Lq.ext V1
      have O7 := O6.ext V1
      have OW3 := OW2.ext V1
      have I8 : Ext D2 G1 := (I7.trans Q2).trans V1
      have I9 : Ext H7 G1 := E2.trans I8
      have IM := OwnR.ids O5.own_paths.1
      have gy1 := (I8.old b11 O2.lt).trans gy
      have gw1 := (V1.old wq OW2.lt.2).trans gF2
      have b11lt : b11 < N1.next := O5.lt
      have wqb := OW3.lt
      have hI9 := I9.next
      clear Lv rv3 rv2 O6 OW2 rv O5 O4 O3 gy gF2 I8
      refine W.keep9 1 2 3 11 12 14 17 102 105 fun T k1 k2 k3 k11 k12 k14 k17 k102 k105 => ?_
      conv at k1 => rhs; whnf
      conv at k2 => rhs; whnf
      conv at k3 => rhs; whnf
      conv at k11 => rhs; whnf
      conv at k12 => rhs; whnf
      conv at k14 => rhs; whnf
      conv at k17 => rhs; whnf
      conv at k102 => rhs; whnf
      conv at k105 => rhs; whnf
      rw [show T = (((((((((T.set 1 (some (T.look 1))).set 2 (some (T.look 2))).set 3 (some (T.look 3))).set 11 (some (T.look 11))).set 12 (some (T.look 12))).set 14 (some (T.look 14))).set 17 (some (T.look 17))).set 102 (some (T.look 102))).set 105 (some (T.look 105))) from rfl, k1, k2, k3, k11, k12, k14, k17, k102, k105]
      clear k1 k2 k3 k11 k12 k14 k17 k102 k105
      by_cases hat : x.stops.length = 0
      · repeat (first | (with_reducible first | refine W.seq ?_ | refine W.region ?_ | refine W.skip ?_ | refine W.ret ?_ | refine SeqQ.normal ?_ | refine SeqQ.ret ?_) | refine W.opn rfl op_eql rfl ?_ | refine W.opn (v := .int _ _) rfl rfl rfl ?_ | refine W.opn (v := .bool _) rfl rfl rfl ?_ | refine W.nil ?_ | refine W.cond (x := true) rfl (fun _ => ?_) (fun hc => by cases hc) | refine W.cond (x := false) rfl (fun hc => by cases hc) (fun _ => ?_) | rw [decide_eq_true (by first | assumption | omega)])
        exact ⟨_, rfl⟩
      have hpos : 0 < x.stops.length := by omega
      repeat (first | (with_reducible first | refine W.seq ?_ | refine W.region ?_ | refine W.draws ?_ | refine W.skip ?_ | refine SeqQ.normal ?_) | refine W.opn rfl op_eql rfl ?_ | refine W.opn (v := .int _ _) rfl rfl rfl ?_ | refine W.opn (v := .bool _) rfl rfl rfl ?_ | refine W.nil ?_ | refine W.cond (x := false) rfl (fun hc => by cases hc) (fun _ => ?_) | rw [decide_eq_false (by first | assumption | omega)])
      have ds := DX.start (Z9.fr fr)
      repeat (first | refine W.dopn (v := .ptr _) rfl rfl rfl rfl ?_ | refine W.dopn rfl rfl rfl rfl ?_ | refine W.dlk (by assumption) (by assumption) (by (repeat (first | assumption | exact Ext.refl _ | refine Ext.trans ?_ (by assumption))); done) rfl rfl rfl rfl rfl rfl rfl fun r_ h_ ds_ s_ => ?_)
      refine W.dopn rfl rfl (op_cat (by show 1 + s.length ≤ _; omega)) rfl ?_
      skip
      refine W.dopn rfl rfl (op_cat (by rw [List.length_append]; show 1 + s.length + 1 ≤ _; omega)) rfl ?_
      repeat (first | refine W.dopn (v := .ptr _) rfl rfl rfl rfl ?_ | refine W.dopn rfl rfl rfl rfl ?_ | refine W.dlk (by assumption) (by assumption) (by (repeat (first | assumption | exact Ext.refl _ | refine Ext.trans ?_ (by assumption))); done) rfl rfl rfl rfl rfl rfl rfl fun r_ h_ ds_ s_ => ?_)
      refine W.dixF s1 (j := 0) hpos rfl rfl rfl rfl rfl rfl rfl fun i_ o_ Le => ?_
      repeat (first | refine W.dopn (v := .int _ _) rfl rfl rfl rfl ?_ | refine W.dopn (v := .agg _) rfl rfl rfl rfl ?_ | refine W.dl0 (by assumption) (by assumption) (by (repeat (first | assumption | exact Ext.refl _ | refine Ext.trans ?_ (by assumption))); done) rfl rfl rfl rfl rfl rfl rfl fun r_ h_ ds_ s_ => ?_)
      have nXE := ds_.x.next
      refine W.dnewZ ds_ rfl rfl rfl rfl fun q4 D4 ds4 x4 n4 g4 => ?_
      obtain ⟨pth, hpth⟩ : ∃ pth : PathS, pth = ⟨qq s, s, x.stops[0], n⟩ := ⟨_, rfl⟩
      have g4 : D4.get h_.next = some (.cells (Flat.enc pth) false) := by rw [hpth]; exact g4
      skip
      have XF := ds4.x
      have nXF := XF.next
      have S4 : SlG D4 4 (.slice (some (h_.next, 0)) 1 1 0) [Flat.enc pth] := by
        have := SlG.one (by omega) g4
        have hz : (Flat.enc pth).length = 4 := rfl
        rw [hz] at this
        exact this
      refine W.apD (H := H7) (z := 4) (l2 := [Flat.enc pth]) ds4.hri (I9.trans XF) (O7.own_paths.1.ext XF) S4 rfl rfl rfl rfl rfl rfl rfl rfl rfl rfl rfl rfl rfl (by
        rw [List.length_map]
        have := li.2.1
        show (x.paths.length + 1) * 56 ≤ _
        omega) fun q5 m7 D5 hr5 XD5 nD5 kD5 P5 _ i5 => ?_
      have i5 := i5 (by simp)
      obtain ⟨pp5, pm5, pc5, py5, em5⟩ := P5.form
      have hc5 : m7.cells = some [m7] := by rw [em5]; rfl
      rw [em5]
      repeat (first | refine W.dopn (v := .ptr _) rfl rfl rfl rfl ?_)
      rw [← em5]
      refine W.dst (vs := [m7]) (cs' := [n0, v', m7, m3, mr, m5, m6]) hr5 rfl rfl rfl rfl hc5 rfl rfl ((kD5 b11 (by omega) (.inr O7.own_paths.2)).trans ((XF.old b11 (by omega)).trans gy1)) rfl fun q6 D6 hr6 t6 => ?_
      repeat (first | refine W.dnil ?_)
      have n6 : D6.next = D5.next := t6.next
      have k6 : ∀ k, k ≠ b11 → D6.get k = D5.get k := fun k hk => by rw [t6.get, Heap.get_put, if_neg (Ne.symm hk)]
      have gy6 : D6.get b11 = some (.cells [n0, v', m7, m3, mr, m5, m6] false) := by rw [t6.get, put_same]
      have EN6 : Ext H7 D6 := Ext.store XD5 n6 k6 (by omega) (by omega)
      have O8 : OwnSB D5 H7.next b11 n0 v' m7 m3 mr m5 m6 ((x.stop s).path pth) := (O7.ext XF).paths (h' := D5) (l := (x.stop s).paths ++ [pth]) nD5 kD5 (by rw [List.map_append]; exact P5) (.inr ⟨_, i5, by omega⟩)
      have O9 := O8.put n6 k6
      have old6 : ∀ a, N1.next ≤ a → a < G1.next → D6.get a = G1.get a := fun a h1 h3 => (k6 a (by omega)).trans ((kD5 a (by omega) (.inr fun e => by have := (IM a (by rw [e]; simp)).2; omega)).trans (XF.old a h3))
      have OW4 := OW3.keep (h' := D6) (by omega) old6
      have gw6 := (old6 wq wqb.1 wqb.2).trans gw1
      have Ly : LocE D6 b11 0 [n0, v', m7, m3, mr, m5, m6] := ⟨_, _, gy6, by omega, rfl⟩
      have Z10 : Ext h D6 := Z7.trans EN6
      have L1 := ((L1_7.ext EN6))
      refine W.keep6 1 2 3 11 14 17 fun T k1 k2 k3 k11 k14 k17 => ?_
      conv at k1 => rhs; whnf
      conv at k2 => rhs; whnf
      conv at k3 => rhs; whnf
      conv at k11 => rhs; whnf
      conv at k14 => rhs; whnf
      conv at k17 => rhs; whnf
      rw [show T = ((((((T.set 1 (some (T.look 1))).set 2 (some (T.look 2))).set 3 (some (T.look 3))).set 11 (some (T.look 11))).set 14 (some (T.look 14))).set 17 (some (T.look 17))) from rfl, k1, k2, k3, k11, k14, k17]
      clear k1 k2 k3 k11 k14 k17
      clear ds ds_ ds4 hr5 hr6 t6 g4 x4 q4 q5 q6 kD5 k6 old6 em5 O8 P5 S4 Le
      repeat (first | (with_reducible first | refine W.seq ?_ | refine W.region ?_) | refine W.ldw (by assumption) (by (repeat (first | assumption | exact Ext.refl _ | refine Ext.trans ?_ (by assumption))); done) rfl rfl rfl rfl (by first | rfl | assumption) rfl rfl ?_)
      
      obtain ⟨zz, hzz⟩ : ∃ zz, zz = (x.stop s).path pth := ⟨_, rfl⟩
      have li2 : zz.slim := by rw [hzz]; exact li.slim
      have O9 : OwnSB D6 H7.next b11 n0 v' m7 m3 mr m5 m6 zz := by rw [hzz]; exact O9
      refine W.call rfl rfl rfl (make_w0 O9.rp (rh.ext Z10) (Z10.fr fr) li2 fun U1 cu JU ru => ?_)
      have ru1 := ru U1 (Nat.le_refl _) fun _ _ _ => rfl
      obtain ⟨y1, y2, y3, y4, y5, y6, y7, y8, y9, y10, y11, rfl, _⟩ := ru1
      obtain ⟨hu0, hhu⟩ : ∃ hu0, hu0 = zz.make.1.hz := ⟨_, rfl⟩
      rw [← hhu] at ru ⊢
      have hH7 : H7.next ≤ N1.next := by have := E2.next; have := I7.next; omega
      have hD6 : G1.next ≤ D6.next := by omega
      have nU := JU.next
      have Z11 := Z10.trans JU
      have OW5 := (OW4.low hH7).ext JU
      have gw7 := (JU.old wq (by omega)).trans gw6
      have IP := OwnR.ids OW4.own_npaths.1
      have IQ := OwnR.ids OW4.own_paths.1
      clear Ly L1 O9 O7 Lq gy6 gy1
      refine W.keep5 1 2 14 17 127 fun T k1 k2 k14 k17 k127 => ?_
      conv at k1 => rhs; whnf
      conv at k2 => rhs; whnf
      conv at k14 => rhs; whnf
      conv at k17 => rhs; whnf
      conv at k127 => rhs; whnf
      rw [show T = (((((T.set 1 (some (T.look 1))).set 2 (some (T.look 2))).set 14 (some (T.look 14))).set 17 (some (T.look 17))).set 127 (some (T.look 127))) from rfl, k1, k2, k14, k17, k127]
      clear k1 k2 k14 k17 k127
      repeat (first | refine W.al rfl rfl rfl fun h_ X_ n_ g_ L_ => ?_ | refine W.opn (v := .agg _) rfl rfl rfl ?_ | refine W.opn (v := .tup _) rfl rfl rfl ?_)
      rename_i M6 j6 nn6 yy6 L6
      clear L6 L_
      have yy6 := (X_.old U1.next (by omega)).trans yy6
      refine W.stn (vs := [.int .i64 hu0, y1, y2, y3, y4, y5, y6, y7, y8, y9, y10, y11]) (cs' := [.int .i64 hu0, y1, y2, y3, y4, y5, y6, y7, y8, y9, y10, y11]) rfl rfl rfl rfl rfl rfl yy6 rfl fun M7 mm7 h7 k7 => ?_
      refine W.stn (vs := zz.make.2.enc) (cs' := zz.make.2.enc) rfl rfl rfl rfl rfl rfl ((k7 M6.next (by omega)).trans g_) rfl fun M8 mm8 h8 k8 => ?_
      have J8 : Ext U1 M8 := Ext.store (Ext.store (j6.trans X_) mm7 k7 (by omega) (by omega)) mm8 k8 (by omega) (by omega)
      have gu : M8.get U1.next = some (.cells [.int .i64 hu0, y1, y2, y3, y4, y5, y6, y7, y8, y9, y10, y11] false) := (k8 _ (by omega)).trans h7
      have lu : U1.next < M8.next := by omega
      have Lg : LocE M8 M6.next 0 zz.make.2.enc := ⟨_, _, h8, by omega, rfl⟩
      have Z12 := Z11.trans J8
      have OW6 := OW5.ext J8
      have gw8 := (J8.old wq (by omega)).trans gw7
      have nJ8 := J8.next
      have Lq : LocE M8 wq 0 [hq, vw, a2, a3, a4, a5, a6, ap, ad, ar, at', az] := ⟨_, _, gw8, by omega, rfl⟩
      have E8 : Ext H7 M8 := (EN6.trans JU).trans J8
      clear X_ g_ n_ yy6 h7 h8 k7 k8 j6
      refine W.keep6 1 2 14 17 18 19 fun T k1 k2 k14 k17 k18 k19 => ?_
      conv at k1 => rhs; whnf
      conv at k2 => rhs; whnf
      conv at k14 => rhs; whnf
      conv at k17 => rhs; whnf
      conv at k18 => rhs; whnf
      conv at k19 => rhs; whnf
      rw [show T = ((((((T.set 1 (some (T.look 1))).set 2 (some (T.look 2))).set 14 (some (T.look 14))).set 17 (some (T.look 17))).set 18 (some (T.look 18))).set 19 (some (T.look 19))) from rfl, k1, k2, k14, k17, k18, k19]
      clear k1 k2 k14 k17 k18 k19
      have ns : NameOk s := fz.ok.2.1 s (by unfold SheetD.all SheetD.stop; simp)
      have mp := more_path fit ns (by omega) hs li.1 li.2.1 (List.getElem?_eq_getElem hpos) (n := n) ⟨by omega, by omega⟩
      by_cases e9 : zz.make.2.err = 0
      · have e10 : zz.make.1 = { (x.stop s).num with names := { (x.stop s).num.names with paths := (x.stop s).num.names.paths ++ [qq s] }, paths := (x.stop s).num.paths ++ [⟨x.stops.length, 0, n⟩] } := by
          rw [hzz, hpth] at e9 ⊢
          exact mp.2 e9
        have La : LocE M8 wq (0 + 1) [vw, a2, a3, a4, a5, a6] := LocE.sub (k := 1) (m := 6) Lq rfl
        repeat (first | (with_reducible first | refine W.seq ?_ | refine W.region ?_ | refine W.skip ?_ | refine SeqQ.normal ?_) | refine W.opn rfl op_neq rfl ?_ | refine W.opn (v := .ptr _) rfl rfl rfl ?_ | refine W.opn rfl rfl rfl ?_ | refine W.nil ?_ | refine W.ldk (by assumption) (by (repeat (first | assumption | exact Ext.refl _ | refine Ext.trans ?_ (by assumption))); done) rfl rfl rfl rfl rfl rfl rfl rfl ?_ | refine W.cond (x := false) rfl (fun hc => by cases hc) (fun _ => ?_) | rw [decide_eq_false (by first | assumption | omega)])
        refine W.opn rfl (op_cat (by show 1 + s.length ≤ _; omega)) rfl ?_
        skip
        refine W.opn rfl (op_cat (by rw [List.length_append]; show 1 + s.length + 1 ≤ _; omega)) rfl ?_
        repeat (first | refine W.bs1 rfl rfl rfl rfl fun h_ X_ n_ g_ S_ => ?_)
        have S_ : SlG h_ 1 (.slice (some (M8.next, 0)) 1 1 0) [Flat.enc (qq s)] := S_
        have lp := li.2.1
        refine W.apR2 (H := H7) (z := 1) (l2 := [Flat.enc (qq s)]) (E8.trans X_) (OW6.own_npaths.1.ext X_) S_ (by simp) rfl rfl rfl rfl rfl rfl rfl rfl rfl rfl rfl rfl (by
          rw [List.length_map]
          have : (x.stop s).num.names.paths.length = x.paths.length := by simp [SheetD.num, SheetD.names, SheetD.stop]
          show ((x.stop s).num.names.paths.length + 1) * 16 ≤ _
          omega) fun vp D7 XD7 OD7 kD7 nD7 iD7 => ?_
        obtain ⟨pv7, nv7, cv7, xv7, ev7⟩ := OD7.form
        have hc7 : vp.cells = some [vp] := by rw [ev7]; rfl
        rw [ev7]
        repeat (first | refine W.opn (v := .ptr _) rfl rfl rfl ?_)
        rw [← ev7]
        refine W.stn (vs := [vp]) (cs' := [hq, vw, vp, a3, a4, a5, a6, ap, ad, ar, at', az]) rfl rfl rfl hc7 rfl rfl ((kD7 wq (by omega) OW6.own_npaths.2).trans ((X_.old wq (by omega)).trans gw8)) rfl fun D8 n8 gw9 k9 => ?_
        have gw9 : D8.get wq = some (.cells [hq, vw, vp, a3, a4, a5, a6, ap, ad, ar, at', az] false) := gw9
        have OW7 := ((OW6.ext X_).npaths (h' := D7) (l := (x.stop s).num.names.paths ++ [qq s]) (u := vp) (by omega) (fun a ha h4 => kD7 a ha (h4.elim (fun h4 e => by have := (IP a (by rw [e]; simp)).1; omega) id)) (by rw [List.map_append]; exact OD7) (.inr ⟨_, iD7, Nat.le_refl _⟩)).put n8 k9
        have ku : ∀ k, D6.next ≤ k → k < M8.next → D8.get k = M8.get k := fun k h1 h2 => (k9 k (by omega)).trans ((kD7 k (by omega) (fun e => by have := (IP k (by rw [e]; simp)).2; omega)).trans (X_.old k h2))
        have E10 : Ext H7 D8 := Ext.store XD7 n8 k9 (by omega) (by omega)
        have nD8 : M8.next ≤ D8.next := by omega
        have Lq9 : LocE D8 wq 0 [hq, vw, vp, a3, a4, a5, a6, ap, ad, ar, at', az] := ⟨_, _, gw9, by omega, rfl⟩
        clear X_ g_ n_ S_ kD7 k9 OD7 ev7 La Lg
        refine W.keep5 1 2 14 17 18 fun T k1 k2 k14 k17 k18 => ?_
        conv at k1 => rhs; whnf
        conv at k2 => rhs; whnf
        conv at k14 => rhs; whnf
        conv at k17 => rhs; whnf
        conv at k18 => rhs; whnf
        rw [show T = (((((T.set 1 (some (T.look 1))).set 2 (some (T.look 2))).set 14 (some (T.look 14))).set 17 (some (T.look 17))).set 18 (some (T.look 18))) from rfl, k1, k2, k14, k17, k18]
        clear k1 k2 k14 k17 k18
        repeat (first | (with_reducible first | refine W.seq ?_ | refine W.region ?_ | refine SeqQ.normal ?_) | refine W.bsS rfl rfl rfl fun h_ X_ n_ g_ S_ => ?_ | refine W.opn (v := .int _ _) rfl rfl rfl ?_ | refine W.opn (v := .ptr _) rfl rfl rfl ?_ | refine W.opn (v := .agg _) rfl rfl rfl ?_ | refine W.nil ?_ | refine W.ldk (by assumption) (by (repeat (first | assumption | exact Ext.refl _ | refine Ext.trans ?_ (by assumption))); done) rfl rfl rfl rfl rfl rfl rfl rfl ?_)
        have S_ : SlG h_ 3 (.slice (some (D8.next, 0)) 1 1 0) [Flat.enc (⟨x.stops.length, 0, n⟩ : PathW)] := S_
        refine W.apR2 (H := H7) (z := 3) (l2 := [Flat.enc (⟨x.stops.length, 0, n⟩ : PathW)]) (E10.trans X_) (OW7.own_paths.1.ext X_) S_ (by simp) rfl rfl rfl rfl rfl rfl rfl rfl rfl rfl rfl rfl (by
          rw [List.length_map]
          have : (x.stop s).num.paths.length = x.paths.length := by simp [SheetD.num, SheetD.stop]
          show ((x.stop s).num.paths.length + 1) * 24 ≤ _
          omega) fun vq D9 XD9 OD9 kD9 nD9 iD9 => ?_
        obtain ⟨pv9, nv9, cv9, xv9, ev9⟩ := OD9.form
        have hc9 : vq.cells = some [vq] := by rw [ev9]; rfl
        rw [ev9]
        repeat (first | refine W.opn (v := .ptr _) rfl rfl rfl ?_)
        rw [← ev9]
        refine W.stn (vs := [vq]) (cs' := [hq, vw, vp, a3, a4, a5, a6, vq, ad, ar, at', az]) rfl rfl rfl hc9 rfl rfl ((kD9 wq (by omega) OW7.own_paths.2).trans ((X_.old wq (by omega)).trans gw9)) rfl fun D10 n10 gw10 k10 => ?_
        have gw10 : D10.get wq = some (.cells [hq, vw, vp, a3, a4, a5, a6, vq, ad, ar, at', az] false) := gw10
        have OW8 := ((OW7.ext X_).paths (h' := D9) (l := (x.stop s).num.paths ++ [⟨x.stops.length, 0, n⟩]) (u := vq) (by omega) (fun a ha h4 => kD9 a ha (h4.elim (fun h4 e => by have := (IQ a (by rw [e]; simp)).1; omega) id)) (by rw [List.map_append]; exact OD9) (.inr ⟨_, iD9, Nat.le_refl _⟩)).put n10 k10
        have ku2 : ∀ k, D6.next ≤ k → k < M8.next → D10.get k = M8.get k := fun k h1 h2 => (k10 k (by omega)).trans ((kD9 k (by omega) (fun e => by have := (IQ k (by rw [e]; simp)).2; omega)).trans ((X_.old k (by omega)).trans (ku k h1 h2)))
        have E11 : Ext H7 D10 := Ext.store XD9 n10 k10 (by omega) (by omega)
        have nD10 : M8.next ≤ D10.next := by omega
        have Lq10 : LocE D10 wq 0 [hq, vw, vp, a3, a4, a5, a6, vq, ad, ar, at', az] := ⟨_, _, gw10, by omega, rfl⟩
        have Lu : LocE D10 U1.next 0 [.int .i64 hu0, y1, y2, y3, y4, y5, y6, y7, y8, y9, y10, y11] := ⟨_, _, (ku2 _ nU lu).trans gu, by omega, rfl⟩
        have ruF := ru D10 (by omega) fun k h1 h2 => (ku2 k h1 (by omega)).trans (J8.old k h2)
        rw [e10] at ruF
        obtain ⟨q1, q2, q3, q4, q5, q6, q7, q8, q9, q10, q11, qr⟩ := fz.ok.numSmall
        have hsh : WorldD.short { (x.stop s).num with names := { (x.stop s).num.names with paths := (x.stop s).num.names.paths ++ [qq s] }, paths := (x.stop s).num.paths ++ [⟨x.stops.length, 0, n⟩] } := by
          refine ⟨Nat.le_trans q1 (by omega), ?_, Nat.le_trans q3 (by omega), Nat.le_trans q4 (by omega), Nat.le_trans q5 (by omega), Nat.le_trans q6 (by omega), ?_, Nat.le_trans q8 (by omega), Nat.le_trans q9 (by omega), Nat.le_trans q10 (by omega), Nat.le_trans q11 (by omega), fun r hr => ?_⟩
          · show ((x.stop s).num.names.paths ++ [qq s]).length ≤ _
            rw [List.length_append, List.length_singleton]
            omega
          · show ((x.stop s).num.paths ++ [_]).length ≤ _
            rw [List.length_append, List.length_singleton]
            omega
          · have := qr r hr
            omega
        clear X_ g_ n_ S_ kD9 k10 OD9 ev9 Lq9 Lq
        refine W.keep3 1 17 18 fun T k1 k17 k18 => ?_
        conv at k1 => rhs; whnf
        conv at k17 => rhs; whnf
        conv at k18 => rhs; whnf
        rw [show T = (((T.set 1 (some (T.look 1))).set 17 (some (T.look 17))).set 18 (some (T.look 18))) from rfl, k1, k17, k18]
        clear k1 k17 k18
        repeat (first | (with_reducible first | refine W.seq ?_ | refine W.region ?_ | refine SeqQ.normal ?_) | refine W.nil ?_ | refine W.ldw (by assumption) (by (repeat (first | assumption | exact Ext.refl _ | refine Ext.trans ?_ (by assumption))); done) rfl rfl rfl rfl (by first | rfl | assumption) rfl rfl ?_)
        refine W.call rfl rfl rfl (world_w ((Z7.trans E11).fr fr) ruF OW8.rp hsh fun G9 V9 => ?_)
        repeat (first | (with_reducible first | refine W.ret ?_ | refine SeqQ.normal ?_ | refine CallQ.val ?_) | refine W.opn (v := .bool _) rfl rfl rfl ?_ | refine W.nil ?_)
        exact ⟨_, rfl⟩
      · have e6 : zz.make.2.err = 6 := by
          rw [hzz, hpth] at e9 ⊢
          exact mp.1 e9
        repeat (first | (with_reducible first | refine W.seq ?_ | refine W.region ?_ | refine W.ret ?_ | refine SeqQ.normal ?_ | refine SeqQ.ret ?_) | refine W.opn rfl op_eql rfl ?_ | refine W.opn rfl op_neq rfl ?_ | refine W.opn (v := .ptr _) rfl rfl rfl ?_ | refine W.opn (v := .bool _) rfl rfl rfl ?_ | refine W.nil ?_ | refine W.ldk (by assumption) (by (repeat (first | assumption | exact Ext.refl _ | refine Ext.trans ?_ (by assumption))); done) rfl rfl rfl rfl rfl rfl rfl rfl ?_ | refine W.cond (x := true) rfl (fun _ => ?_) (fun hc => by cases hc) | rw [decide_eq_true (by first | assumption | omega)])
        exact ⟨_, rfl⟩
    · have e7 := fit.stopText (by have := li.1; omega) hs e1
      repeat (first | (with_reducible first | refine W.seq ?_ | refine W.region ?_ | refine W.skip ?_ | refine W.ret ?_ | refine SeqQ.normal ?_ | refine SeqQ.ret ?_) | refine W.opn rfl op_eql rfl ?_ | refine W.opn rfl op_neq rfl ?_ | refine W.opn (v := .int _ _) rfl rfl rfl ?_ | refine W.opn (v := .ptr _) rfl rfl rfl ?_ | refine W.opn (v := .bool _) rfl rfl rfl ?_ | refine W.nil ?_ | refine W.ldk (by assumption) (by (repeat (first | assumption | exact Ext.refl _ | refine Ext.trans ?_ (by assumption))); done) rfl rfl rfl rfl rfl rfl rfl rfl ?_ | refine W.cond (x := true) rfl (fun _ => ?_) (fun hc => by cases hc) | refine W.cond (x := false) rfl (fun hc => by cases hc) (fun _ => ?_) | rw [decide_eq_true (by first | assumption | omega)] | rw [decide_eq_false (by first | assumption | omega)])
      exact ⟨_, rfl⟩
  · have hs : s ∈ x.names.lists.flatten := by
      by_cases d : s ∈ x.names.lists.flatten
      · exact d
      · exact absurd (NamesD.find_zero.2 d) hk
    have e6 := fit.stopThere (by have := li.1; omega) hs
    repeat (first | (with_reducible first | refine W.seq ?_ | refine W.region ?_ | refine W.ret ?_ | refine SeqQ.normal ?_ | refine SeqQ.ret ?_) | refine W.opn rfl op_eql rfl ?_ | refine W.opn rfl op_neq rfl ?_ | refine W.opn (v := .int _ _) rfl rfl rfl ?_ | refine W.opn (v := .ptr _) rfl rfl rfl ?_ | refine W.opn (v := .bool _) rfl rfl rfl ?_ | refine W.nil ?_ | refine W.ldk (by assumption) (by (repeat (first | assumption | exact Ext.refl _ | refine Ext.trans ?_ (by assumption))); done) rfl rfl rfl rfl rfl rfl rfl rfl ?_ | refine W.cond (x := true) rfl (fun _ => ?_) (fun hc => by cases hc) | rw [decide_eq_true (by first | assumption | omega)])
    exact ⟨_, rfl⟩
end
end Go.Proofs.YtmgpjfnlciapkaaGreatDoor
