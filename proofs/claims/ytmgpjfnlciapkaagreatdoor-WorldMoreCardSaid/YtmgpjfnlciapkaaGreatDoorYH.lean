/- May a sheet be? No condition but that the table of spaces lies where it does. -/
import Derived.Test.YtmgpjfnlciapkaaGreatDoorYG
set_option linter.unusedVariables false
set_option linter.unusedSimpArgs false
namespace Go.Proofs.YtmgpjfnlciapkaaGreatDoor
open Go Go.CM Go.CM.Tt
noncomputable section
set_option maxHeartbeats 8000000
theorem check1_w {h : Heap} {tm : Tm} {Q : R → Prop} (s : Str) (rh : RH h) (q : ∀ h' (b : Bool), Ext h h' → (b = true ↔ ¬ NameOk s) → Q (.val (.bool b) h')) : W E1 (.call (.fn 75 [] []) [.str s]) tm h Q := by
  refine W.fn (s := fnOf Tryz.f75) rfl rfl rfl rfl ?_
  repeat (first | (with_reducible first | refine W.seq ?_ | refine W.region ?_ | refine SeqQ.normal ?_) | refine W.opn (v := .bool _) rfl rfl rfl ?_ | refine W.opn rfl rfl rfl ?_ | refine W.nil ?_)
  refine W.call rfl rfl rfl (name_w s rh fun h' b X hb => ?_)
  cases b
  · repeat (first | (with_reducible first | refine W.ret ?_ | refine SeqQ.normal ?_ | refine CallQ.val ?_) | refine W.opn (v := .bool _) rfl rfl rfl ?_ | refine W.nil ?_)
    exact q h' true X (Iff.intro (fun _ h => by cases hb.2 h) (fun _ => rfl))
  · repeat (first | (with_reducible first | refine W.ret ?_ | refine SeqQ.normal ?_ | refine CallQ.val ?_) | refine W.opn (v := .bool _) rfl rfl rfl ?_ | refine W.nil ?_)
    exact q h' false X (Iff.intro (fun h => by cases h) (fun h => absurd (hb.1 rfl) h))
theorem check2_w {h : Heap} {tm : Tm} {Q : R → Prop} (n : Int) (q : ∀ h' (b : Bool), Ext h h' → (b = true ↔ ¬ TickOk n) → Q (.val (.bool b) h')) : W E1 (.call (.fn 79 [] []) [.int .i64 n]) tm h Q := by
  refine W.fn (s := fnOf Tryz.f79) rfl rfl rfl rfl ?_
  repeat (first | (with_reducible first | refine W.seq ?_ | refine W.region ?_ | refine SeqQ.normal ?_) | refine W.opn (v := .int _ _) rfl rfl rfl ?_ | refine W.opn (v := .bool _) rfl rfl rfl ?_ | refine W.nil ?_)
  refine W.call rfl rfl rfl (tick_w n fun e he => ?_)
  by_cases c : e = 0
  · repeat (first | (with_reducible first | refine W.ret ?_ | refine SeqQ.normal ?_ | refine CallQ.val ?_) | refine W.opn rfl op_neq rfl ?_ | refine W.opn (v := .bool _) rfl rfl rfl ?_ | refine W.nil ?_ | rw [decide_eq_false (by first | assumption | omega)])
    exact q h false (Ext.refl _) (Iff.intro (fun h => by cases h) (fun h => absurd (he.1 c) h))
  · repeat (first | (with_reducible first | refine W.ret ?_ | refine SeqQ.normal ?_ | refine CallQ.val ?_) | refine W.opn rfl op_neq rfl ?_ | refine W.opn (v := .bool _) rfl rfl rfl ?_ | refine W.nil ?_ | rw [decide_eq_true (by first | assumption | omega)])
    exact q h true (Ext.refl _) (Iff.intro (fun _ h => c (he.2 h)) (fun _ => rfl))
theorem check3_w {h : Heap} {tm : Tm} {Q : R → Prop} {cs : List CV} {r : RouteS} (rr : Rp.R h cs r) (hm : r.stops.length ≤ 1000 ∧ r.rides.length ≤ 1000 ∧ r.stays.length ≤ 1000) (q : ∀ h' (b : Bool), Ext h h' → (b = true ↔ ¬ r.ok) → Q (.val (.bool b) h')) : W E1 (.call (.fn 82 [] []) [.agg cs]) tm h Q := by
  obtain ⟨v1, v2, v3, rfl, s1, s2, s3⟩ := rr
  refine W.fn (s := fnOf Tryz.f82) rfl rfl rfl rfl ?_
  repeat (refine W.seq ?_)
  refine W.region ?_
  refine W.box rfl rfl rfl fun H XH nH gH LH => ?_
  by_cases c1 : r.stops.length < 2
  · repeat (first | (with_reducible first | refine W.seq ?_ | refine W.region ?_ | refine W.ret ?_ | refine SeqQ.normal ?_) | refine W.offn rfl rfl ?_ | refine W.lnS (by assumption) rfl rfl rfl rfl rfl rfl rfl rfl ?_ | refine W.opn rfl op_lss rfl ?_ | refine W.opn (v := .int _ _) rfl rfl rfl ?_ | refine W.opn (v := .ptr _) rfl rfl rfl ?_ | refine W.opn (v := .bool _) rfl rfl rfl ?_ | refine W.nil ?_ | refine W.ldk (by assumption) (by (repeat (first | assumption | exact Ext.refl _ | refine Ext.trans ?_ (by assumption))); done) rfl rfl rfl rfl rfl rfl rfl rfl ?_ | rw [decide_eq_true (by first | assumption | omega)])
    exact q _ true XH (Iff.intro (fun _ h => by have := h.1; omega) (fun _ => rfl))
  by_cases c2 : 32 < r.stops.length
  · repeat (first | (with_reducible first | refine W.seq ?_ | refine W.region ?_ | refine W.ret ?_ | refine SeqQ.normal ?_) | refine W.offn rfl rfl ?_ | refine W.lnS (by assumption) rfl rfl rfl rfl rfl rfl rfl rfl ?_ | refine W.opn rfl op_lss rfl ?_ | refine W.opn (v := .int _ _) rfl rfl rfl ?_ | refine W.opn (v := .ptr _) rfl rfl rfl ?_ | refine W.opn (v := .bool _) rfl rfl rfl ?_ | refine W.nil ?_ | refine W.ldk (by assumption) (by (repeat (first | assumption | exact Ext.refl _ | refine Ext.trans ?_ (by assumption))); done) rfl rfl rfl rfl rfl rfl rfl rfl ?_ | rw [decide_eq_true (by first | assumption | omega)] | rw [decide_eq_false (by first | assumption | omega)])
    exact q _ true XH (Iff.intro (fun _ h => by have := h.2.1; omega) (fun _ => rfl))
  by_cases c3 : r.rides.length + 1 = r.stops.length
  · by_cases c4 : r.stays.length + 2 = r.stops.length
    · repeat (first | (with_reducible first | refine W.seq ?_ | refine W.region ?_ | refine W.ret ?_ | refine SeqQ.normal ?_) | refine W.lnS (by assumption) rfl rfl rfl rfl rfl rfl rfl rfl ?_ | refine W.opn rfl op_lss rfl ?_ | refine W.opn rfl op_neq rfl ?_ | refine W.opn rfl (op_sub (by omega) (by omega)) rfl ?_ | refine W.opn (v := .int _ _) rfl rfl rfl ?_ | refine W.opn (v := .ptr _) rfl rfl rfl ?_ | refine W.opn (v := .bool _) rfl rfl rfl ?_ | refine W.nil ?_ | refine W.ldk (by assumption) (by (repeat (first | assumption | exact Ext.refl _ | refine Ext.trans ?_ (by assumption))); done) rfl rfl rfl rfl rfl rfl rfl rfl ?_ | rw [decide_eq_false (by first | assumption | omega)])
      exact q _ false XH (Iff.intro (fun h => by cases h) (fun h => absurd ⟨by omega, by omega, c3, c4⟩ h))
    · repeat (first | (with_reducible first | refine W.seq ?_ | refine W.region ?_ | refine W.ret ?_ | refine SeqQ.normal ?_) | refine W.lnS (by assumption) rfl rfl rfl rfl rfl rfl rfl rfl ?_ | refine W.opn rfl op_lss rfl ?_ | refine W.opn rfl op_neq rfl ?_ | refine W.opn rfl (op_sub (by omega) (by omega)) rfl ?_ | refine W.opn (v := .int _ _) rfl rfl rfl ?_ | refine W.opn (v := .ptr _) rfl rfl rfl ?_ | refine W.opn (v := .bool _) rfl rfl rfl ?_ | refine W.nil ?_ | refine W.ldk (by assumption) (by (repeat (first | assumption | exact Ext.refl _ | refine Ext.trans ?_ (by assumption))); done) rfl rfl rfl rfl rfl rfl rfl rfl ?_ | rw [decide_eq_true (by first | assumption | omega)] | rw [decide_eq_false (by first | assumption | omega)])
      exact q _ true XH (Iff.intro (fun _ h => c4 h.2.2.2) (fun _ => rfl))
  · repeat (first | (with_reducible first | refine W.seq ?_ | refine W.region ?_ | refine W.ret ?_ | refine SeqQ.normal ?_) | refine W.offn rfl rfl ?_ | refine W.lnS (by assumption) rfl rfl rfl rfl rfl rfl rfl rfl ?_ | refine W.opn rfl op_lss rfl ?_ | refine W.opn rfl op_neq rfl ?_ | refine W.opn rfl (op_sub (by omega) (by omega)) rfl ?_ | refine W.opn (v := .int _ _) rfl rfl rfl ?_ | refine W.opn (v := .ptr _) rfl rfl rfl ?_ | refine W.opn (v := .bool _) rfl rfl rfl ?_ | refine W.nil ?_ | refine W.ldk (by assumption) (by (repeat (first | assumption | exact Ext.refl _ | refine Ext.trans ?_ (by assumption))); done) rfl rfl rfl rfl rfl rfl rfl rfl ?_ | rw [decide_eq_true (by first | assumption | omega)] | rw [decide_eq_false (by first | assumption | omega)])
    exact q _ true XH (Iff.intro (fun _ h => c3 h.2.2.1) (fun _ => rfl))
theorem sheetCheck_w {h : Heap} {tm : Tm} {Q : R → Prop} {cs : List CV} {x : SheetD} (r : Rp.R h cs x) (rh : RH h) (sm : x.slim) (q : ∀ h', Ext h h' → Q (.val (.int .i64 x.err) h')) : W E1 (.call (.fn 24 [] []) [.agg cs]) tm h Q := by
  have r0 := r
  obtain ⟨v1, v2, v3, v4, v5, v6, rfl, s1, s2, s3, s4, s5, s6⟩ := r
  refine W.fn (s := fnOf Tryz.f24) rfl rfl rfl rfl ?_
  repeat (refine W.seq ?_)
  refine W.region ?_
  refine W.box rfl rfl rfl fun H XH nH gH LH => ?_
  by_cases c1 : 256 < x.stops.length
  · repeat (first | (with_reducible first | refine W.seq ?_ | refine W.block ?_ | refine W.region ?_ | refine W.ret ?_ | refine SeqQ.normal ?_ | refine SeqQ.ret ?_ | refine BlockQ.ret ?_) | refine W.offn rfl rfl ?_ | refine W.lnS (by assumption) rfl rfl rfl rfl rfl rfl rfl rfl ?_ | refine W.opn rfl op_lss rfl ?_ | refine W.opn (v := .int _ _) rfl rfl rfl ?_ | refine W.opn (v := .ptr _) rfl rfl rfl ?_ | refine W.opn (v := .bool _) rfl rfl rfl ?_ | refine W.nil ?_ | refine W.ldk (by assumption) (by (repeat (first | assumption | exact Ext.refl _ | refine Ext.trans ?_ (by assumption))); done) rfl rfl rfl rfl rfl rfl rfl rfl ?_ | refine W.cond (x := true) rfl (fun _ => ?_) (fun hc => by cases hc) | rw [decide_eq_true (by first | assumption | omega)])
    have e : x.err = 3 := if_pos (fun g => by obtain ⟨g1, g2, g3, g4, g5, g6⟩ := g; omega)
    rw [e] at q
    exact q _ XH
  by_cases c2 : 1024 < x.paths.length
  · repeat (first | (with_reducible first | refine W.seq ?_ | refine W.block ?_ | refine W.region ?_ | refine W.ret ?_ | refine SeqQ.normal ?_ | refine SeqQ.ret ?_ | refine BlockQ.ret ?_) | refine W.offn rfl rfl ?_ | refine W.lnS (by assumption) rfl rfl rfl rfl rfl rfl rfl rfl ?_ | refine W.opn rfl op_lss rfl ?_ | refine W.opn (v := .int _ _) rfl rfl rfl ?_ | refine W.opn (v := .ptr _) rfl rfl rfl ?_ | refine W.opn (v := .bool _) rfl rfl rfl ?_ | refine W.nil ?_ | refine W.ldk (by assumption) (by (repeat (first | assumption | exact Ext.refl _ | refine Ext.trans ?_ (by assumption))); done) rfl rfl rfl rfl rfl rfl rfl rfl ?_ | refine W.cond (x := true) rfl (fun _ => ?_) (fun hc => by cases hc) | rw [decide_eq_true (by first | assumption | omega)] | rw [decide_eq_false (by first | assumption | omega)])
    have e : x.err = 3 := if_pos (fun g => by obtain ⟨g1, g2, g3, g4, g5, g6⟩ := g; omega)
    rw [e] at q
    exact q _ XH
  by_cases c3 : 256 < x.doors.length
  · repeat (first | (with_reducible first | refine W.seq ?_ | refine W.block ?_ | refine W.region ?_ | refine W.ret ?_ | refine SeqQ.normal ?_ | refine SeqQ.ret ?_ | refine BlockQ.ret ?_) | refine W.offn rfl rfl ?_ | refine W.lnS (by assumption) rfl rfl rfl rfl rfl rfl rfl rfl ?_ | refine W.opn rfl op_lss rfl ?_ | refine W.opn (v := .int _ _) rfl rfl rfl ?_ | refine W.opn (v := .ptr _) rfl rfl rfl ?_ | refine W.opn (v := .bool _) rfl rfl rfl ?_ | refine W.nil ?_ | refine W.ldk (by assumption) (by (repeat (first | assumption | exact Ext.refl _ | refine Ext.trans ?_ (by assumption))); done) rfl rfl rfl rfl rfl rfl rfl rfl ?_ | refine W.cond (x := true) rfl (fun _ => ?_) (fun hc => by cases hc) | rw [decide_eq_true (by first | assumption | omega)] | rw [decide_eq_false (by first | assumption | omega)])
    have e : x.err = 3 := if_pos (fun g => by obtain ⟨g1, g2, g3, g4, g5, g6⟩ := g; omega)
    rw [e] at q
    exact q _ XH
  by_cases c4 : 256 < x.routes.length
  · repeat (first | (with_reducible first | refine W.seq ?_ | refine W.block ?_ | refine W.region ?_ | refine W.ret ?_ | refine SeqQ.normal ?_ | refine SeqQ.ret ?_ | refine BlockQ.ret ?_) | refine W.offn rfl rfl ?_ | refine W.lnS (by assumption) rfl rfl rfl rfl rfl rfl rfl rfl ?_ | refine W.opn rfl op_lss rfl ?_ | refine W.opn (v := .int _ _) rfl rfl rfl ?_ | refine W.opn (v := .ptr _) rfl rfl rfl ?_ | refine W.opn (v := .bool _) rfl rfl rfl ?_ | refine W.nil ?_ | refine W.ldk (by assumption) (by (repeat (first | assumption | exact Ext.refl _ | refine Ext.trans ?_ (by assumption))); done) rfl rfl rfl rfl rfl rfl rfl rfl ?_ | refine W.cond (x := true) rfl (fun _ => ?_) (fun hc => by cases hc) | rw [decide_eq_true (by first | assumption | omega)] | rw [decide_eq_false (by first | assumption | omega)])
    have e : x.err = 3 := if_pos (fun g => by obtain ⟨g1, g2, g3, g4, g5, g6⟩ := g; omega)
    rw [e] at q
    exact q _ XH
  by_cases c5 : 1024 < x.trips.length
  · repeat (first | (with_reducible first | refine W.seq ?_ | refine W.block ?_ | refine W.region ?_ | refine W.ret ?_ | refine SeqQ.normal ?_ | refine SeqQ.ret ?_ | refine BlockQ.ret ?_) | refine W.offn rfl rfl ?_ | refine W.lnS (by assumption) rfl rfl rfl rfl rfl rfl rfl rfl ?_ | refine W.opn rfl op_lss rfl ?_ | refine W.opn (v := .int _ _) rfl rfl rfl ?_ | refine W.opn (v := .ptr _) rfl rfl rfl ?_ | refine W.opn (v := .bool _) rfl rfl rfl ?_ | refine W.nil ?_ | refine W.ldk (by assumption) (by (repeat (first | assumption | exact Ext.refl _ | refine Ext.trans ?_ (by assumption))); done) rfl rfl rfl rfl rfl rfl rfl rfl ?_ | refine W.cond (x := true) rfl (fun _ => ?_) (fun hc => by cases hc) | rw [decide_eq_true (by first | assumption | omega)] | rw [decide_eq_false (by first | assumption | omega)])
    have e : x.err = 3 := if_pos (fun g => by obtain ⟨g1, g2, g3, g4, g5, g6⟩ := g; omega)
    rw [e] at q
    exact q _ XH
  by_cases c6 : 256 < x.hazards.length
  · repeat (first | (with_reducible first | refine W.seq ?_ | refine W.block ?_ | refine W.region ?_ | refine W.ret ?_ | refine SeqQ.normal ?_ | refine SeqQ.ret ?_ | refine BlockQ.ret ?_) | refine W.lnS (by assumption) rfl rfl rfl rfl rfl rfl rfl rfl ?_ | refine W.opn rfl op_lss rfl ?_ | refine W.opn (v := .int _ _) rfl rfl rfl ?_ | refine W.opn (v := .ptr _) rfl rfl rfl ?_ | refine W.opn (v := .bool _) rfl rfl rfl ?_ | refine W.nil ?_ | refine W.ldk (by assumption) (by (repeat (first | assumption | exact Ext.refl _ | refine Ext.trans ?_ (by assumption))); done) rfl rfl rfl rfl rfl rfl rfl rfl ?_ | refine W.cond (x := true) rfl (fun _ => ?_) (fun hc => by cases hc) | rw [decide_eq_true (by first | assumption | omega)] | rw [decide_eq_false (by first | assumption | omega)])
    have e : x.err = 3 := if_pos (fun g => by obtain ⟨g1, g2, g3, g4, g5, g6⟩ := g; omega)
    rw [e] at q
    exact q _ XH
  have few : x.few := ⟨by omega, by omega, by omega, by omega, by omega, by omega⟩
  repeat (first | (with_reducible first | refine W.seq ?_ | refine W.block ?_ | refine W.region ?_ | refine SeqQ.normal ?_) | refine W.lnS (by assumption) rfl rfl rfl rfl rfl rfl rfl rfl ?_ | refine W.opn rfl op_lss rfl ?_ | refine W.opn (v := .int _ _) rfl rfl rfl ?_ | refine W.opn (v := .ptr _) rfl rfl rfl ?_ | refine W.opn (v := .bool _) rfl rfl rfl ?_ | refine W.nil ?_ | refine W.ldk (by assumption) (by (repeat (first | assumption | exact Ext.refl _ | refine Ext.trans ?_ (by assumption))); done) rfl rfl rfl rfl rfl rfl rfl rfl ?_ | refine W.ldw (by assumption) (by (repeat (first | assumption | exact Ext.refl _ | refine Ext.trans ?_ (by assumption))); done) rfl rfl rfl rfl (by first | rfl | assumption) rfl rfl ?_ | refine W.cond (x := false) rfl (fun hc => by cases hc) (fun _ => ?_) | rw [decide_eq_false (by first | assumption | omega)])
  refine W.call rfl rfl rfl (names_w (Rp.ext XH r0) few (SheetD.all_len few sm) fun h1 va X1 sa => ?_)
  refine W.keep2 1 40 fun T k1 k40 => ?_
  conv at k1 => rhs; whnf
  conv at k40 => rhs; whnf
  rw [show T = ((T.set 1 (some (T.look 1))).set 40 (some (T.look 40))) from rfl, k1, k40]
  clear k1 k40
  skip
  refine W.call rfl rfl rfl (conF_str 75 [] [] (fun s => ¬ NameOk s) sa (by have := SheetD.all_len few sm; omega) (fun s _ tm h' Q X q => check1_w s (((rh.ext XH).ext X1).ext X) q) fun h2 b X2 hb => ?_)
  cases b
  rotate_left
  · repeat (first | (with_reducible first | refine W.seq ?_ | refine W.region ?_ | refine W.ret ?_ | refine SeqQ.normal ?_ | refine SeqQ.ret ?_ | refine BlockQ.ret ?_ | refine CallQ.val ?_) | refine W.opn (v := .int _ _) rfl rfl rfl ?_ | refine W.opn (v := .bool _) rfl rfl rfl ?_ | refine W.nil ?_ | refine W.cond (x := true) rfl (fun _ => ?_) (fun hc => by cases hc))
    obtain ⟨s, hs, hn⟩ := hb.1 rfl
    have e : x.err = 7 := by
      unfold SheetD.err
      rw [if_neg (fun g => g few), if_pos (fun g => hn (g s hs))]
    rw [e] at q
    exact q _ (XH.trans (X1.trans X2))
  have okN : ∀ s ∈ x.all, NameOk s := fun s hs => Classical.byContradiction fun hn => by cases hb.2 ⟨s, hs, hn⟩
  clear hb sa
  have Y2 := X1.trans X2
  refine W.keep2 1 41 fun T k1 k41 => ?_
  conv at k1 => rhs; whnf
  conv at k41 => rhs; whnf
  rw [show T = ((T.set 1 (some (T.look 1))).set 41 (some (T.look 41))) from rfl, k1, k41]
  clear k1 k41
  repeat (first | (with_reducible first | refine W.seq ?_ | refine W.region ?_ | refine SeqQ.normal ?_) | refine W.opn (v := .bool _) rfl rfl rfl ?_ | refine W.nil ?_ | refine W.ldw (by assumption) (by (repeat (first | assumption | exact Ext.refl _ | refine Ext.trans ?_ (by assumption))); done) rfl rfl rfl rfl (by first | rfl | assumption) rfl rfl ?_ | refine W.cond (x := false) rfl (fun hc => by cases hc) (fun _ => ?_))
  refine W.call rfl rfl rfl (numbers_w (Rp.ext (XH.trans Y2) r0) few (SheetD.nums_len few sm) fun h3 vn X3 sn => ?_)
  refine W.keep2 1 44 fun T k1 k44 => ?_
  conv at k1 => rhs; whnf
  conv at k44 => rhs; whnf
  rw [show T = ((T.set 1 (some (T.look 1))).set 44 (some (T.look 44))) from rfl, k1, k44]
  clear k1 k44
  skip
  refine W.call rfl rfl rfl (conF_int 79 [] [] (fun n => ¬ TickOk n) sn (by have := SheetD.nums_len few sm; omega) (fun n _ tm h' Q X q => check2_w n q) fun h4 b X4 hb => ?_)
  cases b
  rotate_left
  · repeat (first | (with_reducible first | refine W.seq ?_ | refine W.region ?_ | refine W.ret ?_ | refine SeqQ.normal ?_ | refine SeqQ.ret ?_ | refine BlockQ.ret ?_ | refine CallQ.val ?_) | refine W.opn (v := .int _ _) rfl rfl rfl ?_ | refine W.opn (v := .bool _) rfl rfl rfl ?_ | refine W.nil ?_ | refine W.cond (x := true) rfl (fun _ => ?_) (fun hc => by cases hc))
    obtain ⟨n, hn, hp⟩ := hb.1 rfl
    have e : x.err = 9 := by
      unfold SheetD.err
      rw [if_neg (fun g => g few), if_neg (fun g => g okN), if_pos (fun g => hp (g n hn))]
    rw [e] at q
    exact q _ (XH.trans (Y2.trans (X3.trans X4)))
  have okT : ∀ n ∈ x.nums, TickOk n := fun n hn => Classical.byContradiction fun hp => by cases hb.2 ⟨n, hn, hp⟩
  clear hb sn
  have Y4 := Y2.trans (X3.trans X4)
  refine W.keep2 1 45 fun T k1 k45 => ?_
  conv at k1 => rhs; whnf
  conv at k45 => rhs; whnf
  rw [show T = ((T.set 1 (some (T.look 1))).set 45 (some (T.look 45))) from rfl, k1, k45]
  clear k1 k45
  repeat (first | (with_reducible first | refine W.seq ?_ | refine W.region ?_ | refine SeqQ.normal ?_) | refine W.opn (v := .ptr _) rfl rfl rfl ?_ | refine W.opn (v := .bool _) rfl rfl rfl ?_ | refine W.nil ?_ | refine W.ldk (by assumption) (by (repeat (first | assumption | exact Ext.refl _ | refine Ext.trans ?_ (by assumption))); done) rfl rfl rfl rfl rfl rfl rfl rfl ?_ | refine W.cond (x := false) rfl (fun hc => by cases hc) (fun _ => ?_))
  have few4 := few.2.2.2.1
  refine W.call rfl rfl rfl (conF_route 82 [] [] (fun r => ¬ r.ok) (s4.ext (XH.trans Y4)) (by omega) (fun r hr e re tm h' Q X q => check3_w (Rp.ext X re) (sm r hr) q) fun h5 b X5 hb => ?_)
  cases b
  · repeat (first | (with_reducible first | refine W.seq ?_ | refine W.region ?_ | refine W.skip ?_ | refine W.ret ?_ | refine SeqQ.normal ?_ | refine BlockQ.normal ?_ | refine CallQ.val ?_) | refine W.opn (v := .int _ _) rfl rfl rfl ?_ | refine W.opn (v := .bool _) rfl rfl rfl ?_ | refine W.nil ?_ | refine W.cond (x := false) rfl (fun hc => by cases hc) (fun _ => ?_))
    have okR : ∀ r ∈ x.routes, r.ok := fun r hr => Classical.byContradiction fun hp => by cases hb.2 ⟨r, hr, hp⟩
    have e : x.err = 0 := by
      unfold SheetD.err
      rw [if_neg (fun g => g few), if_neg (fun g => g okN), if_neg (fun g => g okT), if_neg (fun g => g okR)]
    rw [e] at q
    exact q _ (XH.trans (Y4.trans X5))
  · repeat (first | (with_reducible first | refine W.seq ?_ | refine W.region ?_ | refine W.ret ?_ | refine SeqQ.normal ?_ | refine SeqQ.ret ?_ | refine BlockQ.ret ?_ | refine CallQ.val ?_) | refine W.opn (v := .int _ _) rfl rfl rfl ?_ | refine W.opn (v := .bool _) rfl rfl rfl ?_ | refine W.nil ?_ | refine W.cond (x := true) rfl (fun _ => ?_) (fun hc => by cases hc))
    obtain ⟨r, hr, hp⟩ := hb.1 rfl
    have e : x.err = 2 := by
      unfold SheetD.err
      rw [if_neg (fun g => g few), if_neg (fun g => g okN), if_neg (fun g => g okT), if_pos (fun g => hp (g r hr))]
    rw [e] at q
    exact q _ (XH.trans (Y4.trans X5))
end
end Go.Proofs.YtmgpjfnlciapkaaGreatDoor
