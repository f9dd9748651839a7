/- What is looked at in a world: ways, paths, routes, trips. No condition. -/
import Derived.Test.YtmgpjfnlciapkaaGreatDoorYL
import Derived.Test.YtmgpjfnlciapkaaGreatDoorXU
import Derived.KernelRfl
import Derived.Test.YtmgpjfnlciapkaaGreatDoorXNb
set_option linter.unusedVariables false
set_option linter.unusedSimpArgs false
namespace Go.Proofs.YtmgpjfnlciapkaaGreatDoor
open Go Go.CM Go.CM.Tt
noncomputable section
set_option maxHeartbeats 8000000
theorem way_w {h : Heap} {tm : Tm} {Q : R → Prop} (a b n : Int) (q : Q (.val (.int .i64 (wayErr a b n)) h)) : W E1 (.call (.fn 149 [] []) [.int .i64 a, .int .i64 b, .int .i64 n]) tm h Q := by
  refine W.fn (s := fnOf Tryz.f149) rfl rfl rfl rfl ?_
  unfold wayErr at q
  by_cases c1 : a < 0 ∨ b < 0
  · rw [if_pos c1] at q
    repeat (first | (with_reducible first | refine W.seq ?_ | refine W.block ?_ | refine W.region ?_ | refine W.ret ?_ | refine SeqQ.normal ?_ | refine SeqQ.ret ?_ | refine BlockQ.ret ?_) | refine W.mn rfl rfl rfl rfl rfl ?_ | refine W.opn rfl op_lss rfl ?_ | refine W.opn (v := .int _ _) rfl rfl rfl ?_ | refine W.opn (v := .bool _) rfl rfl rfl ?_ | refine W.nil ?_ | refine W.cond (x := true) rfl (fun _ => ?_) (fun hc => by cases hc) | rw [decide_eq_true (by first | assumption | omega)])
    exact q
  rw [if_neg c1] at q
  by_cases c2 : a = b
  · rw [if_pos (.inl c2)] at q
    repeat (first | (with_reducible first | refine W.seq ?_ | refine W.block ?_ | refine W.region ?_ | refine W.ret ?_ | refine SeqQ.normal ?_ | refine SeqQ.ret ?_ | refine BlockQ.ret ?_) | refine W.offn rfl rfl ?_ | refine W.mn rfl rfl rfl rfl rfl ?_ | refine W.opn rfl op_lss rfl ?_ | refine W.opn rfl op_eql rfl ?_ | refine W.opn (v := .int _ _) rfl rfl rfl ?_ | refine W.opn (v := .bool _) rfl rfl rfl ?_ | refine W.nil ?_ | refine W.cond (x := true) rfl (fun _ => ?_) (fun hc => by cases hc) | refine W.cond (x := false) rfl (fun hc => by cases hc) (fun _ => ?_) | rw [decide_eq_true (by first | assumption | omega)] | rw [decide_eq_false (by first | assumption | omega)])
    exact q
  by_cases c3 : n < 1
  · rw [if_pos (.inr c3)] at q
    repeat (first | (with_reducible first | refine W.seq ?_ | refine W.block ?_ | refine W.region ?_ | refine W.ret ?_ | refine SeqQ.normal ?_ | refine SeqQ.ret ?_ | refine BlockQ.ret ?_) | refine W.mn rfl rfl rfl rfl rfl ?_ | refine W.opn rfl op_lss rfl ?_ | refine W.opn rfl op_eql rfl ?_ | refine W.opn (v := .int _ _) rfl rfl rfl ?_ | refine W.opn (v := .bool _) rfl rfl rfl ?_ | refine W.nil ?_ | refine W.cond (x := true) rfl (fun _ => ?_) (fun hc => by cases hc) | refine W.cond (x := false) rfl (fun hc => by cases hc) (fun _ => ?_) | rw [decide_eq_true (by first | assumption | omega)] | rw [decide_eq_false (by first | assumption | omega)])
    exact q
  rw [if_neg (fun h => h.elim c2 c3)] at q
  repeat (first | (with_reducible first | refine W.seq ?_ | refine W.block ?_ | refine W.region ?_ | refine W.skip ?_ | refine W.ret ?_ | refine SeqQ.normal ?_ | refine BlockQ.normal ?_) | refine W.mn rfl rfl rfl rfl rfl ?_ | refine W.opn rfl op_lss rfl ?_ | refine W.opn rfl op_eql rfl ?_ | refine W.opn (v := .int _ _) rfl rfl rfl ?_ | refine W.opn (v := .bool _) rfl rfl rfl ?_ | refine W.nil ?_ | refine W.cond (x := false) rfl (fun hc => by cases hc) (fun _ => ?_) | rw [decide_eq_false (by first | assumption | omega)])
  exact q
structure Chk (h : Heap) (cb : Nat) (w : WorldD) (tp : CV) : Prop where
  c : ∃ wb cs, LocE h cb 0 [tp, .ptr (some (wb, 0))] ∧ LocE h wb 0 cs ∧ Rp.R h cs w
theorem Chk.ext {h h' : Heap} {cb : Nat} {w : WorldD} {tp : CV} (o : Chk h cb w tp) (x : Ext h h') : Chk h' cb w tp := by
  obtain ⟨wb, cs, h1, h2, h3⟩ := o.c
  exact ⟨wb, cs, h1.ext x, h2.ext x, Rp.ext x h3⟩
theorem pathChk_w {h : Heap} {tm : Tm} {Q : R → Prop} {cb : Nat} {w : WorldD} {tp : CV} (ck : Chk h cb w tp) (i : Nat) (hi : i < w.paths.length) (q : ∀ h', Ext h h' → Q (.val (.int .i64 (PathW.err w.paths[i])) h')) : W E1 (.call (.fn 110 [.ptr (some (cb, 0))] []) [.int .i64 (i : Int)]) tm h Q := by
  obtain ⟨wb, cs, Lc, Lw, r⟩ := ck.c
  obtain ⟨v1, v2, v3, v4, v5, v6, v7, v8, v9, v10, v11, rfl, s1, s2, s3, s4, s5, s6, s7, s8, s9, s10, s11⟩ := r
  refine W.fn (s := fnOf Tryz.f110) rfl rfl rfl rfl ?_
  repeat (first | (with_reducible first | refine W.seq ?_ | refine W.region ?_ | refine SeqQ.normal ?_) | refine W.opn (v := .int _ _) rfl rfl rfl ?_ | refine W.opn (v := .ptr _) rfl rfl rfl ?_ | refine W.nil ?_ | refine W.ldk (by assumption) (by (repeat (first | assumption | exact Ext.refl _ | refine Ext.trans ?_ (by assumption))); done) rfl rfl rfl rfl rfl rfl rfl rfl ?_)
  refine W.ixF (by assumption) (by first | assumption | omega) rfl rfl rfl rfl rfl rfl rfl fun i_ o_ L_ => ?_
  repeat (first | (with_reducible first | refine W.seq ?_ | refine W.region ?_ | refine SeqQ.normal ?_) | refine W.var rfl rfl rfl rfl rfl rfl rfl rfl rfl (by first | rfl | assumption) rfl fun h_ X_ n_ g_ L_ => ?_ | refine W.opn (v := .ptr _) rfl rfl rfl ?_ | refine W.nil ?_ | refine W.ldk (by assumption) (by (repeat (first | assumption | exact Ext.refl _ | refine Ext.trans ?_ (by assumption))); done) rfl rfl rfl rfl rfl rfl rfl rfl ?_ | refine W.ldw (by assumption) (by (repeat (first | assumption | exact Ext.refl _ | refine Ext.trans ?_ (by assumption))); done) rfl rfl rfl rfl (by first | rfl | assumption) rfl rfl ?_)
  refine W.call rfl rfl rfl (way_w _ _ _ ?_)
  repeat (first | (with_reducible first | refine W.ret ?_ | refine SeqQ.normal ?_ | refine CallQ.val ?_) | refine W.opn (v := .int _ _) rfl rfl rfl ?_ | refine W.nil ?_)
  exact q _ X_
theorem tripChk_w {h : Heap} {tm : Tm} {Q : R → Prop} {cb : Nat} {w : WorldD} {tp : CV} (ck : Chk h cb w tp) (i : Nat) (hi : i < w.trips.length) (q : ∀ h', Ext h h' → Q (.val (.int .i64 (TripW.err w.trips[i])) h')) : W E1 (.call (.fn 113 [.ptr (some (cb, 0))] []) [.int .i64 (i : Int)]) tm h Q := by
  obtain ⟨wb, cs, Lc, Lw, r⟩ := ck.c
  obtain ⟨v1, v2, v3, v4, v5, v6, v7, v8, v9, v10, v11, rfl, s1, s2, s3, s4, s5, s6, s7, s8, s9, s10, s11⟩ := r
  refine W.fn (s := fnOf Tryz.f113) rfl rfl rfl rfl ?_
  repeat (first | (with_reducible first | refine W.seq ?_ | refine W.region ?_ | refine SeqQ.normal ?_) | refine W.opn (v := .int _ _) rfl rfl rfl ?_ | refine W.opn (v := .ptr _) rfl rfl rfl ?_ | refine W.nil ?_ | refine W.ldk (by assumption) (by (repeat (first | assumption | exact Ext.refl _ | refine Ext.trans ?_ (by assumption))); done) rfl rfl rfl rfl rfl rfl rfl rfl ?_)
  refine W.ixF (by assumption) (by first | assumption | omega) rfl rfl rfl rfl rfl rfl rfl fun i_ o_ L_ => ?_
  unfold TripW.err at q
  by_cases c1 : w.trips[i].route < 0
  · rw [if_pos c1] at q
    repeat (first | (with_reducible first | refine W.seq ?_ | refine W.block ?_ | refine W.region ?_ | refine W.ret ?_ | refine SeqQ.normal ?_ | refine SeqQ.ret ?_ | refine BlockQ.ret ?_) | refine W.var rfl rfl rfl rfl rfl rfl rfl rfl rfl (by first | rfl | assumption) rfl fun h_ X_ n_ g_ L_ => ?_ | refine W.opn rfl op_lss rfl ?_ | refine W.opn (v := .int _ _) rfl rfl rfl ?_ | refine W.opn (v := .ptr _) rfl rfl rfl ?_ | refine W.opn (v := .bool _) rfl rfl rfl ?_ | refine W.nil ?_ | refine W.ldk (by assumption) (by (repeat (first | assumption | exact Ext.refl _ | refine Ext.trans ?_ (by assumption))); done) rfl rfl rfl rfl rfl rfl rfl rfl ?_ | refine W.ldw (by assumption) (by (repeat (first | assumption | exact Ext.refl _ | refine Ext.trans ?_ (by assumption))); done) rfl rfl rfl rfl (by first | rfl | assumption) rfl rfl ?_ | refine W.cond (x := true) rfl (fun _ => ?_) (fun hc => by cases hc) | rw [decide_eq_true (by first | assumption | omega)])
    exact q _ X_
  rw [if_neg c1] at q
  by_cases c2 : w.trips[i].untl < w.trips[i].frm
  · rw [if_pos c2] at q
    repeat (first | (with_reducible first | refine W.seq ?_ | refine W.block ?_ | refine W.region ?_ | refine W.ret ?_ | refine SeqQ.normal ?_ | refine SeqQ.ret ?_ | refine BlockQ.ret ?_) | refine W.var rfl rfl rfl rfl rfl rfl rfl rfl rfl (by first | rfl | assumption) rfl fun h_ X_ n_ g_ L_ => ?_ | refine W.opn rfl op_lss rfl ?_ | refine W.opn (v := .int _ _) rfl rfl rfl ?_ | refine W.opn (v := .ptr _) rfl rfl rfl ?_ | refine W.opn (v := .bool _) rfl rfl rfl ?_ | refine W.nil ?_ | refine W.ldk (by assumption) (by (repeat (first | assumption | exact Ext.refl _ | refine Ext.trans ?_ (by assumption))); done) rfl rfl rfl rfl rfl rfl rfl rfl ?_ | refine W.ldw (by assumption) (by (repeat (first | assumption | exact Ext.refl _ | refine Ext.trans ?_ (by assumption))); done) rfl rfl rfl rfl (by first | rfl | assumption) rfl rfl ?_ | refine W.cond (x := true) rfl (fun _ => ?_) (fun hc => by cases hc) | refine W.cond (x := false) rfl (fun hc => by cases hc) (fun _ => ?_) | rw [decide_eq_true (by first | assumption | omega)] | rw [decide_eq_false (by first | assumption | omega)])
    exact q _ X_
  rw [if_neg c2] at q
  repeat (first | (with_reducible first | refine W.seq ?_ | refine W.block ?_ | refine W.region ?_ | refine W.skip ?_ | refine W.ret ?_ | refine SeqQ.normal ?_ | refine BlockQ.normal ?_) | refine W.var rfl rfl rfl rfl rfl rfl rfl rfl rfl (by first | rfl | assumption) rfl fun h_ X_ n_ g_ L_ => ?_ | refine W.opn rfl op_lss rfl ?_ | refine W.opn (v := .int _ _) rfl rfl rfl ?_ | refine W.opn (v := .ptr _) rfl rfl rfl ?_ | refine W.opn (v := .bool _) rfl rfl rfl ?_ | refine W.nil ?_ | refine W.ldk (by assumption) (by (repeat (first | assumption | exact Ext.refl _ | refine Ext.trans ?_ (by assumption))); done) rfl rfl rfl rfl rfl rfl rfl rfl ?_ | refine W.ldw (by assumption) (by (repeat (first | assumption | exact Ext.refl _ | refine Ext.trans ?_ (by assumption))); done) rfl rfl rfl rfl (by first | rfl | assumption) rfl rfl ?_ | refine W.cond (x := false) rfl (fun hc => by cases hc) (fun _ => ?_) | rw [decide_eq_false (by first | assumption | omega)])
  exact q _ X_
theorem fineChk_w {h : Heap} {tm : Tm} {Q : R → Prop} (c : CV) (i : Int) (q : Q (.val (.int .i64 0) h)) : W E1 (.call (.fn 109 [c] []) [.int .i64 i]) tm h Q := by
  refine W.fn (s := fnOf Tryz.f109) rfl rfl rfl rfl ?_
  repeat (first | (with_reducible first | refine W.seq ?_ | refine W.region ?_ | refine W.ret ?_ | refine SeqQ.normal ?_) | refine W.opn (v := .int _ _) rfl rfl rfl ?_ | refine W.nil ?_)
  exact q
end
end Go.Proofs.YtmgpjfnlciapkaaGreatDoor

noncomputable section
namespace Go.CM
section
variable {E : Env} {tm : Tm} {h : Heap} {Q : R → Prop} {all rest : List Oper} {o : Oper}
theorem W.quo {t ty : TypeId} {x y : Operand} {a b : Int} {a0 a1 a2 a3 a4 a5 a6 a7 a8 a9 a10 a11 a12 a13 a14 a15 : NA} {a16 : Tree CV} (ha : 0 ≤ a) (hl : a ≤ 9223372036854775807) (hb : 0 < b) (hgd : guardOn all tm o = some true) (hop : o.op = .binOp .quo t x y ty)
    (hx : binop E .quo t (isConst x || isConst y) (cvOf E.globs tm x) (cvOf E.globs tm y) = intBin .quo .i64 a b)
    (ht : putTmp tm o.dst (.int .i64 (a / b)) = (Tm.mk a0 a1 a2 a3 a4 a5 a6 a7 a8 a9 a10 a11 a12 a13 a14 a15 a16)) (w : W E (.ops all rest) (Tm.mk a0 a1 a2 a3 a4 a5 a6 a7 a8 a9 a10 a11 a12 a13 a14 a15 a16) h Q) : W E (.ops all (o :: rest)) tm h Q := by
  refine W.op hgd (v := .int .i64 (a / b)) (h1 := h) ?_ (by rw [ht]; exact w)
  unfold opAny
  rw [hop]
  show withH h (binop E .quo t (isConst x || isConst y) (cvOf E.globs tm x) (cvOf E.globs tm y)) = _
  rw [hx]
  unfold intBin
  simp only [intEq_eq]
  have hb0 : (b == 0) = false := by simp; omega
  rw [hb0]
  have e : a.tdiv b = a / b := Int.tdiv_eq_ediv_of_nonneg ha
  have h1 : a / b ≤ a := Int.ediv_le_self b ha
  have h2 : 0 ≤ a / b := Int.ediv_nonneg ha (by omega)
  show withH h (some (.int .i64 (IntKind.i64.wrap (a.tdiv b)))) = _
  rw [e, show IntKind.i64.wrap (a / b) = a / b from IntWalk.i64_in _ (by omega)]
  rfl
end
end Go.CM

namespace Go.Proofs.YtmgpjfnlciapkaaGreatDoor
open Go Go.CM Go.CM.Tt
noncomputable section
set_option maxHeartbeats 8000000
theorem timesCheck_w {h : Heap} {tm : Tm} {Q : R → Prop} (t : Times) (q : ∀ h' (e : Int), Ext h h' → (t.ok → e = 0) → (¬ t.ok → e = 2) → Q (.val (.int .i64 e) h')) : W E1 (.call (.fn 172 [] []) [.agg t.enc]) tm h Q := by
  refine W.fn (s := fnOf Tryz.f172) rfl rfl rfl rfl ?_
  repeat (first | (with_reducible first | refine W.seq ?_ | refine W.region ?_ | refine SeqQ.normal ?_) | refine W.box rfl rfl rfl fun h_ X_ n_ g_ L_ => ?_ | refine W.opn (v := .int _ _) rfl rfl rfl ?_ | refine W.opn (v := .ptr _) rfl rfl rfl ?_ | refine W.nil ?_ | refine W.ldk (by assumption) (by (repeat (first | assumption | exact Ext.refl _ | refine Ext.trans ?_ (by assumption))); done) rfl rfl rfl rfl rfl rfl rfl rfl ?_)
  refine W.call rfl rfl rfl (tick_w t.frm fun e he => ?_)
  by_cases c0 : e = 0
  rotate_left
  · repeat (first | (with_reducible first | refine W.seq ?_ | refine W.region ?_ | refine W.ret ?_ | refine SeqQ.normal ?_ | refine SeqQ.ret ?_ | refine CallQ.val ?_) | refine W.offn rfl rfl ?_ | refine W.opn rfl op_neq rfl ?_ | refine W.opn (v := .int _ _) rfl rfl rfl ?_ | refine W.opn (v := .bool _) rfl rfl rfl ?_ | refine W.nil ?_ | refine W.cond (x := true) rfl (fun _ => ?_) (fun hc => by cases hc) | rw [decide_eq_true (by first | assumption | omega)])
    exact q _ 2 X_ (fun g => absurd (he.2 g.1) c0) (fun _ => rfl)
  by_cases c1 : t.len < 1
  · repeat (first | (with_reducible first | refine W.seq ?_ | refine W.region ?_ | refine W.ret ?_ | refine SeqQ.normal ?_ | refine SeqQ.ret ?_ | refine CallQ.val ?_) | refine W.offn rfl rfl ?_ | refine W.opn rfl op_lss rfl ?_ | refine W.opn rfl op_neq rfl ?_ | refine W.opn (v := .int _ _) rfl rfl rfl ?_ | refine W.opn (v := .ptr _) rfl rfl rfl ?_ | refine W.opn (v := .bool _) rfl rfl rfl ?_ | refine W.nil ?_ | refine W.ldk (by assumption) (by (repeat (first | assumption | exact Ext.refl _ | refine Ext.trans ?_ (by assumption))); done) rfl rfl rfl rfl rfl rfl rfl rfl ?_ | refine W.cond (x := true) rfl (fun _ => ?_) (fun hc => by cases hc) | rw [decide_eq_true (by first | assumption | omega)] | rw [decide_eq_false (by first | assumption | omega)])
    exact q _ 2 X_ (fun g => by have := g.2.1; omega) (fun _ => rfl)
  by_cases c2 : 1099511627776 < t.len
  · repeat (first | (with_reducible first | refine W.seq ?_ | refine W.region ?_ | refine W.ret ?_ | refine SeqQ.normal ?_ | refine SeqQ.ret ?_ | refine CallQ.val ?_) | refine W.offn rfl rfl ?_ | refine W.opn rfl op_lss rfl ?_ | refine W.opn rfl op_neq rfl ?_ | refine W.opn (v := .int _ _) rfl rfl rfl ?_ | refine W.opn (v := .ptr _) rfl rfl rfl ?_ | refine W.opn (v := .bool _) rfl rfl rfl ?_ | refine W.nil ?_ | refine W.ldk (by assumption) (by (repeat (first | assumption | exact Ext.refl _ | refine Ext.trans ?_ (by assumption))); done) rfl rfl rfl rfl rfl rfl rfl rfl ?_ | refine W.cond (x := true) rfl (fun _ => ?_) (fun hc => by cases hc) | rw [decide_eq_true (by first | assumption | omega)] | rw [decide_eq_false (by first | assumption | omega)])
    exact q _ 2 X_ (fun g => by have := g.2.2.1; omega) (fun _ => rfl)
  by_cases c3 : t.evr = 0
  · repeat (first | (with_reducible first | refine W.seq ?_ | refine W.region ?_ | refine W.skip ?_ | refine W.ret ?_ | refine SeqQ.normal ?_ | refine CallQ.val ?_) | refine W.offn rfl rfl ?_ | refine W.opn rfl op_lss rfl ?_ | refine W.opn rfl op_neq rfl ?_ | refine W.opn (v := .int _ _) rfl rfl rfl ?_ | refine W.opn (v := .ptr _) rfl rfl rfl ?_ | refine W.opn (v := .bool _) rfl rfl rfl ?_ | refine W.nil ?_ | refine W.ldk (by assumption) (by (repeat (first | assumption | exact Ext.refl _ | refine Ext.trans ?_ (by assumption))); done) rfl rfl rfl rfl rfl rfl rfl rfl ?_ | refine W.cond (x := false) rfl (fun hc => by cases hc) (fun _ => ?_) | rw [decide_eq_false (by first | assumption | omega)])
    exact q _ 0 X_ (fun _ => rfl) (fun g => absurd ⟨he.1 c0, by omega, by omega, .inl c3⟩ g)
  by_cases c4 : t.evr < t.len
  · repeat (first | (with_reducible first | refine W.seq ?_ | refine W.region ?_ | refine W.ret ?_ | refine SeqQ.normal ?_ | refine SeqQ.ret ?_ | refine CallQ.val ?_) | refine W.offn rfl rfl ?_ | refine W.opn rfl op_lss rfl ?_ | refine W.opn rfl op_neq rfl ?_ | refine W.opn (v := .int _ _) rfl rfl rfl ?_ | refine W.opn (v := .ptr _) rfl rfl rfl ?_ | refine W.opn (v := .bool _) rfl rfl rfl ?_ | refine W.nil ?_ | refine W.ldk (by assumption) (by (repeat (first | assumption | exact Ext.refl _ | refine Ext.trans ?_ (by assumption))); done) rfl rfl rfl rfl rfl rfl rfl rfl ?_ | refine W.cond (x := true) rfl (fun _ => ?_) (fun hc => by cases hc) | rw [decide_eq_true (by first | assumption | omega)] | rw [decide_eq_false (by first | assumption | omega)])
    exact q _ 2 X_ (fun g => by rcases g.2.2.2 with g | g; exact absurd g c3; omega) (fun _ => rfl)
  by_cases c5 : 1099511627776 < t.evr
  · repeat (first | (with_reducible first | refine W.seq ?_ | refine W.region ?_ | refine W.ret ?_ | refine SeqQ.normal ?_ | refine SeqQ.ret ?_ | refine CallQ.val ?_) | refine W.opn rfl op_lss rfl ?_ | refine W.opn rfl op_neq rfl ?_ | refine W.opn (v := .int _ _) rfl rfl rfl ?_ | refine W.opn (v := .ptr _) rfl rfl rfl ?_ | refine W.opn (v := .bool _) rfl rfl rfl ?_ | refine W.nil ?_ | refine W.ldk (by assumption) (by (repeat (first | assumption | exact Ext.refl _ | refine Ext.trans ?_ (by assumption))); done) rfl rfl rfl rfl rfl rfl rfl rfl ?_ | refine W.cond (x := true) rfl (fun _ => ?_) (fun hc => by cases hc) | rw [decide_eq_true (by first | assumption | omega)] | rw [decide_eq_false (by first | assumption | omega)])
    exact q _ 2 X_ (fun g => by rcases g.2.2.2 with g | g; exact absurd g c3; omega) (fun _ => rfl)
  repeat (first | (with_reducible first | refine W.seq ?_ | refine W.region ?_ | refine W.skip ?_ | refine W.ret ?_ | refine SeqQ.normal ?_ | refine CallQ.val ?_) | refine W.opn rfl op_lss rfl ?_ | refine W.opn rfl op_neq rfl ?_ | refine W.opn (v := .int _ _) rfl rfl rfl ?_ | refine W.opn (v := .ptr _) rfl rfl rfl ?_ | refine W.opn (v := .bool _) rfl rfl rfl ?_ | refine W.nil ?_ | refine W.ldk (by assumption) (by (repeat (first | assumption | exact Ext.refl _ | refine Ext.trans ?_ (by assumption))); done) rfl rfl rfl rfl rfl rfl rfl rfl ?_ | refine W.cond (x := false) rfl (fun hc => by cases hc) (fun _ => ?_) | rw [decide_eq_true (by first | assumption | omega)] | rw [decide_eq_false (by first | assumption | omega)])
  exact q _ 0 X_ (fun _ => rfl) (fun g => absurd ⟨he.1 c0, by omega, by omega, .inr ⟨by omega, by omega⟩⟩ g)
theorem count_w {h : Heap} {tm : Tm} {Q : R → Prop} (f e u : Int) (hf : TickOk f) (he : TickOk e) (hu : TickOk u) (q : Q (.val (.int .i64 (countT f e u)) h)) : W E1 (.call (.fn 173 [] []) [.int .i64 f, .int .i64 e, .int .i64 u]) tm h Q := by
  refine W.fn (s := fnOf Tryz.f173) rfl rfl rfl rfl ?_
  have f0 := hf.1
  have f1 := hf.2
  have e0 := he.1
  have u1 := hu.2
  unfold countT at q
  repeat (first | (with_reducible first | refine W.seq ?_ | refine W.block ?_ | refine W.region ?_ | refine SeqQ.normal ?_) | refine W.opn (v := .int _ _) rfl rfl rfl ?_ | refine W.nil ?_)
  refine W.call rfl rfl rfl (tick_w f fun a ha => ?_)
  have a0 := ha.2 hf
  subst a0
  repeat (first | (with_reducible first | refine CallQ.val ?_) | refine W.opn rfl op_neq rfl ?_ | refine W.opn (v := .int _ _) rfl rfl rfl ?_ | refine W.opn (v := .bool _) rfl rfl rfl ?_ | rw [decide_eq_false (by first | assumption | omega)])
  refine W.call rfl rfl rfl (tick_w e fun b hb => ?_)
  have b0 := hb.2 he
  subst b0
  repeat (first | (with_reducible first | refine CallQ.val ?_) | refine W.opn rfl op_neq rfl ?_ | refine W.opn (v := .int _ _) rfl rfl rfl ?_ | refine W.opn (v := .bool _) rfl rfl rfl ?_ | rw [decide_eq_false (by first | assumption | omega)])
  refine W.call rfl rfl rfl (tick_w u fun c hc => ?_)
  have c0 := hc.2 hu
  subst c0
  repeat (first | (with_reducible first | refine SeqQ.normal ?_ | refine CallQ.val ?_) | refine W.opn rfl op_lss rfl ?_ | refine W.opn rfl op_neq rfl ?_ | refine W.opn (v := .int _ _) rfl rfl rfl ?_ | refine W.opn (v := .bool _) rfl rfl rfl ?_ | refine W.nil ?_)
  by_cases c1 : u < f
  · rw [if_pos c1] at q
    repeat (first | (with_reducible first | refine W.seq ?_ | refine W.region ?_ | refine W.ret ?_ | refine SeqQ.normal ?_ | refine SeqQ.ret ?_ | refine BlockQ.ret ?_) | refine W.opn (v := .int _ _) rfl rfl rfl ?_ | refine W.nil ?_ | refine W.cond (x := true) rfl (fun _ => ?_) (fun hc => by cases hc) | rw [decide_eq_true (by first | assumption | omega)] | rw [decide_eq_false (by first | assumption | omega)])
    exact q
  rw [if_neg c1] at q
  by_cases c2 : e = 0
  · rw [if_pos c2] at q
    repeat (first | (with_reducible first | refine W.seq ?_ | refine W.region ?_ | refine W.ret ?_ | refine SeqQ.normal ?_ | refine SeqQ.ret ?_ | refine BlockQ.ret ?_) | refine W.opn rfl op_eql rfl ?_ | refine W.opn (v := .int _ _) rfl rfl rfl ?_ | refine W.opn (v := .bool _) rfl rfl rfl ?_ | refine W.nil ?_ | refine W.cond (x := true) rfl (fun _ => ?_) (fun hc => by cases hc) | refine W.cond (x := false) rfl (fun hc => by cases hc) (fun _ => ?_) | rw [decide_eq_true (by first | assumption | omega)] | rw [decide_eq_false (by first | assumption | omega)])
    exact q
  rw [if_neg c2] at q
  repeat (first | (with_reducible first | refine W.seq ?_ | refine W.region ?_ | refine W.skip ?_ | refine SeqQ.normal ?_ | refine BlockQ.normal ?_) | refine W.opn rfl op_eql rfl ?_ | refine W.opn rfl (op_sub (by omega) (by omega)) rfl ?_ | refine W.opn (v := .int _ _) rfl rfl rfl ?_ | refine W.opn (v := .bool _) rfl rfl rfl ?_ | refine W.nil ?_ | refine W.cond (x := false) rfl (fun hc => by cases hc) (fun _ => ?_) | rw [decide_eq_false (by first | assumption | omega)])
  have h1 : (u - f) / e ≤ u - f := Int.ediv_le_self e (by omega)
  have h2 : 0 ≤ (u - f) / e := Int.ediv_nonneg (by omega) e0
  refine W.quo (a := u - f) (b := e) (by omega) (by omega) (by omega) rfl rfl rfl rfl ?_
  repeat (first | (with_reducible first | refine W.ret ?_ | refine SeqQ.normal ?_) | refine W.opn rfl (op_add (by omega) (by omega)) rfl ?_ | refine W.opn (v := .int _ _) rfl rfl rfl ?_ | refine W.nil ?_)
  exact q
end
end Go.Proofs.YtmgpjfnlciapkaaGreatDoor

namespace Go.CM.Wins
def next : List (Int × Int) → Int → Option Int
  | [], _ => none
  | w :: r, x => if w.2 ≤ x then next r x else some (if x ≤ w.1 then w.1 else x)
end Go.CM.Wins

namespace Go.CM.Wins
def joinP : Int × Int → List (Int × Int) → List (Int × Int)
  | p, [] => [p]
  | p, w :: r => if w.1 ≤ p.2 then joinP (p.1, if w.2 ≤ p.2 then p.2 else w.2) r else p :: joinP w r
def join : List (Int × Int) → List (Int × Int)
  | [] => []
  | w :: r => joinP w r
end Go.CM.Wins

namespace Go.CM
noncomputable section
theorem op_mul {α : Type} {a b : Int} {h : α} (hl : -9223372036854775808 ≤ a * b) (hu : a * b ≤ 9223372036854775807) : some (CV.int .i64 (IntKind.i64.wrap (a * b)), h) = some (CV.int .i64 (a * b), h) := by
  rw [show IntKind.i64.wrap (a * b) = a * b from IntWalk.i64_in _ (by omega)]
def winE (w : Int × Int) : List CV := [.int .i64 w.1, .int .i64 w.2]
instance : Rp (Int × Int) := ⟨2, fun _ cs w => cs = winE w, fun _ h => h, fun h => by rw [h]; rfl⟩
instance : Flat (Int × Int) := ⟨winE, fun _ _ _ => Iff.rfl⟩
end
end Go.CM
namespace Go.Proofs.YtmgpjfnlciapkaaGreatDoor
open Go Go.CM Go.CM.Tt
noncomputable section
set_option maxHeartbeats 8000000
def winAt (t : Times) (k : Nat) : Int × Int := (t.frm + (k : Int) * t.evr, t.frm + (k : Int) * t.evr + t.len)
theorem each_w {H h : Heap} {tm : Tm} {Q : R → Prop} {b3 bt : Nat} {n : Nat} {t : Times} (y : Nat) (I : Nat → Heap → Prop) (L3 : LocE H b3 0 [.int .i64 (n : Int)]) (Lt : LocE H bt 0 t.enc) (hn : n ≤ 256) (b1 : 0 ≤ t.frm ∧ t.frm ≤ 1099511627776) (b2 : 0 ≤ t.evr ∧ t.evr ≤ 1099511627776) (b3' : 0 ≤ t.len ∧ t.len ≤ 1099511627776)
    (h0 : I 0 h) (hX : ∀ k h', I k h' → Ext H h')
    (hy : ∀ k : Nat, k < n → ∀ (h' : Heap) (tm : Tm) (Q : R → Prop), I k h' → (∀ h2, I (k + 1) h2 → Q (.val (.bool true) h2)) → W E1 (.call (.yield y) [.agg (winE (winAt t k))]) tm h' Q)
    (q : ∀ h', I n h' → Q (.val (.tup []) h')) : W E1 (.call (.fn 178 [] [.ptr (some (b3, 0)), .ptr (some (bt, 0))]) [.yield y]) tm h Q := by
  refine W.fn (s := fnOf Tryz.f178) rfl rfl rfl rfl ?_
  have X0 := hX 0 h h0
  repeat (first | (with_reducible first | refine W.seq ?_ | refine W.block ?_ | refine W.region ?_ | refine SeqQ.normal ?_) | refine W.opn (v := .int _ _) rfl rfl rfl ?_ | refine W.nil ?_ | refine W.ld0 (by assumption) (by (repeat (first | assumption | exact Ext.refl _ | refine Ext.trans ?_ (by assumption))); done) rfl rfl rfl rfl rfl rfl rfl rfl ?_)
  refine W.loop (σ := Nat) (fun k tm h' => I k h' ∧ tm.look 0 = .yield y ∧ tm.look 1 = .ptr (some (b3, 0)) ∧ tm.look 2 = .ptr (some (bt, 0)) ∧ tm.look 6 = .int .i64 (n : Int) ∧ tm.look 7 = .int .i64 (k : Int) ∧ k ≤ n) (fun k => n - k) ?_ (s := 0)
    ⟨h0, rfl, rfl, rfl, rfl, rfl, Nat.zero_le _⟩
  rintro k tm h' ⟨hI, w0, w1, w2, w6, w7, hk⟩
  obtain ⟨T, rfl⟩ : ∃ T : Tm, tm = (((((T.set 0 (some (.yield y))).set 1 (some (.ptr (some (b3, 0))))).set 2 (some (.ptr (some (bt, 0))))).set 6 (some (.int .i64 (n : Int)))).set 7 (some (.int .i64 (k : Int)))) := ⟨tm, (show tm = (((((tm.set 0 (some (tm.look 0))).set 1 (some (tm.look 1))).set 2 (some (tm.look 2))).set 6 (some (tm.look 6))).set 7 (some (tm.look 7))) by rfl).trans (by rw [w0, w1, w2, w6, w7])⟩
  clear w0 w1 w2 w6 w7
  have X1 := hX k h' hI
  by_cases c1 : k < n
  · have m0 : 0 ≤ (k : Int) * t.evr := Int.mul_nonneg (by omega) b2.1
    have m3 : (k : Int) * t.evr ≤ 256 * 1099511627776 := Int.mul_le_mul (by omega) b2.2 b2.1 (by omega)
    have m1 : -9223372036854775808 ≤ (k : Int) * t.evr := by omega
    have m2 : (k : Int) * t.evr ≤ 9223372036854775807 := by omega
    repeat (first | (with_reducible first | refine W.seq ?_ | refine W.block ?_ | refine W.region ?_ | refine W.skip ?_ | refine SeqQ.normal ?_) | refine W.opn rfl op_lss rfl ?_ | refine W.opn rfl (op_add (by omega) (by omega)) rfl ?_ | refine W.opn rfl (op_mul (by assumption) (by assumption)) rfl ?_ | refine W.opn (v := .int _ _) rfl rfl rfl ?_ | refine W.opn (v := .ptr _) rfl rfl rfl ?_ | refine W.opn (v := .agg _) rfl rfl rfl ?_ | refine W.opn rfl rfl rfl ?_ | refine W.nil ?_ | refine W.ldk (by assumption) (by (repeat (first | assumption | exact Ext.refl _ | refine Ext.trans ?_ (by assumption))); done) rfl rfl rfl rfl rfl rfl rfl rfl ?_ | refine W.cond (x := true) rfl (fun _ => ?_) (fun hc => by cases hc) | rw [decide_eq_true (by first | assumption | omega)])
    refine W.call rfl rfl rfl (hy k c1 h' _ _ hI fun h2 hI2 => ?_)
    repeat (first | (with_reducible first | refine W.region ?_ | refine W.skip ?_ | refine SeqQ.normal ?_ | refine BlockQ.normal ?_ | refine CallQ.val ?_) | refine W.opn rfl (op_add (by omega) (by omega)) rfl ?_ | refine W.opn (v := .int _ _) rfl rfl rfl ?_ | refine W.opn (v := .bool _) rfl rfl rfl ?_ | refine W.nil ?_ | refine W.cond (x := false) rfl (fun hc => by cases hc) (fun _ => ?_))
    exact ⟨k + 1, lessN c1, hI2, rfl, rfl, rfl, rfl, rfl, c1⟩
  · repeat (first | (with_reducible first | refine W.seq ?_ | refine W.region ?_ | refine W.exit ?_ | refine SeqQ.normal ?_ | refine SeqQ.exit ?_ | refine BlockQ.exit ?_ | refine LoopQ.exit ?_) | refine W.opn rfl op_lss rfl ?_ | refine W.nil ?_ | refine W.cond (x := false) rfl (fun hc => by cases hc) (fun _ => ?_) | rw [decide_eq_false (by first | assumption | omega)])
    rw [show k = n by omega] at hI
    exact q _ hI
end
end Go.Proofs.YtmgpjfnlciapkaaGreatDoor

noncomputable section
namespace Go.CM
section
variable {E : Env} {tm : Tm} {h : Heap} {Q : R → Prop}
theorem W.rangeX {f : Operand} {ps : Array Nat} {asg body : Code} {id : Nat} {first caps : List CV} (hf : cvOf E.globs tm f = .fn id first caps)
    (w : ∀ B : Blk, B = .loop tm ps.toList asg body 0 none → W E (.call (.fn id first caps) [.yield h.next]) .leaf (h.new B) (RangeQ h.next tm Q)) : W E (.code (.rangeFunc f ps asg body)) tm h Q := W.range hf (w _ rfl)
theorem W.yieldX {i : Nat} {args : List CV} {tx : Tm} {ps : List Nat} {asg body : Code} {st : Nat} {pend : Option Code} {t1 : Tm} (hg : h.get i = some (.loop tx ps asg body st pend)) (hs : setPs ps args tx = some t1)
    (w : W E (.code asg) t1 h (CutQ fun t' h' => ∃ tx' ps' asg' bd' pend', h'.get i = some (.loop tx' ps' asg' bd' 0 pend') ∧ ∀ G, G.next = h'.next → G.get i = some (.loop tx' ps' asg' bd' 1 pend') → (∀ k, k ≠ i → G.get k = h'.get k) → W E (.code body) t' G (RoundQ i Q))) : W E (.call (.yield i) args) tm h Q := by
  refine W.yield hg hs (w.mono fun r q => ?_)
  cases r with
  | code e t' h' =>
    cases e with
    | normal =>
      obtain ⟨tx', ps', asg', bd', pend', g, k⟩ := q
      exact ⟨tx', ps', asg', bd', pend', g, k _ rfl (by rw [Heap.get_put]; simp) fun j hj => by rw [Heap.get_put, if_neg (Ne.symm hj)]⟩
    | _ => exact q.elim
  | _ => exact q.elim
theorem RoundQ.norm {i : Nat} {tmx : Tm} {psx : List Nat} {asg body : Code} {st : Nat} {pend : Option Code} (hg : h.get i = some (.loop tmx psx asg body st pend)) (q : ∀ G, G.next = h.next → G.get i = some (.loop tmx psx asg body 0 none) → (∀ k, k ≠ i → G.get k = h.get k) → Q (.val (.bool true) G)) : RoundQ i Q (.code .normal tm h) :=
  RoundQ.normal hg (q _ rfl (by rw [Heap.get_put]; simp) fun j hj => by rw [Heap.get_put, if_neg (Ne.symm hj)])
end
end Go.CM

noncomputable section
namespace Go.CM
abbrev Tag := Nat × Nat
section
variable {h h' : Heap} {own own' : Nat → Tag} {lo z : Nat} {t t' : Tag} {v : CV} {l : List (List CV)}
theorem flat_set {f : Nat} {x : CV} : ∀ {l : List (List CV)} {k : Nat} {e : List CV}, (∀ e ∈ l, e.length = z) → f < z → l[k]? = some e → l.flatten.set (k * z + f) x = (l.set k (e.set f x)).flatten
  | [], k, e, _, _, h => by simp at h
  | a :: l, 0, e, hz, hf, h => by
    simp at h
    subst h
    have := hz a (by simp)
    rw [Nat.zero_mul, Nat.zero_add, List.flatten_cons, List.set_append_left _ _ (by omega)]
    rfl
  | a :: l, k + 1, e, hz, hf, h => by
    have ih := flat_set (l := l) (k := k) (e := e) (x := x) (fun x hx => hz x (List.mem_cons_of_mem _ hx)) hf (by simpa using h)
    have := hz a (by simp)
    rw [Nat.succ_mul, List.flatten_cons, List.set_append_right _ _ (by omega), show k * z + z + f - a.length = k * z + f by omega, ih]
    rfl
theorem setAt_one {cs : List CV} {x : CV} {o : Nat} (h : o < cs.length) : setAt cs [x] o = some (cs.set o x) := by
  rw [setAt_eq, if_pos (by simp only [List.length_cons, List.length_nil]; omega)]
  congr 1
  rw [List.set_eq_take_append_cons_drop, if_pos h]
  simp
theorem flat_len2 {k : Nat} {e : List CV} {f : Nat} (hz : ∀ e ∈ l, e.length = z) (hf : f < z) (hk : l[k]? = some e) : k * z + f < l.flatten.length := by
  rw [flat_len hz]
  have hk := (List.getElem?_eq_some_iff.1 hk).1
  have : (k + 1) * z ≤ l.length * z := Nat.mul_le_mul_right _ hk
  rw [Nat.succ_mul] at this
  omega
theorem flat_setAt {k : Nat} {e : List CV} {f : Nat} {x : CV} (hz : ∀ e ∈ l, e.length = z) (hf : f < z) (hk : l[k]? = some e) : setAt l.flatten [x] (0 + k * z + f) = some (l.set k (e.set f x)).flatten := by
  rw [Nat.zero_add, setAt_one (flat_len2 hz hf hk), flat_set hz hf hk]
theorem flat_get {k : Nat} {e : List CV} {f : Nat} {x : CV} (hz : ∀ e ∈ l, e.length = z) (hk : l[k]? = some e) (hx : e[f]? = some x) : nth l.flatten (0 + k * z + f) = some x := cut_nth (flat_cut hz hk) hx
end
section
variable {E : Env} {tm : Tm} {h : Heap} {own : Nat → Tag} {Q : R → Prop} {all rest : List Oper} {o : Oper}
end
end Go.CM
