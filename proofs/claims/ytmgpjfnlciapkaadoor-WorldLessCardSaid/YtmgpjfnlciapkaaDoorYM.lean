/- What is looked at in a world: ways, paths, routes, trips. No condition. -/
import Derived.Test.YtmgpjfnlciapkaaDoorYL
import Derived.Test.YtmgpjfnlciapkaaDoorXU
import Derived.KernelRfl
namespace Go.Proofs.YtmgpjfnlciapkaaDoor
set_option linter.unusedVariables false
set_option linter.unusedSimpArgs false
open Go Go.CM Go.CM.Tt
noncomputable section
set_option maxHeartbeats 8000000

theorem way_w {h : Heap} {tm : Tm} {Q : R → Prop} (a b n : Int) (q : Q (.val (.int .i64 (wayErr a b n)) h)) : W E1 (.call (.fn 84 [] []) [.int .i64 a, .int .i64 b, .int .i64 n]) tm h Q := by
  refine W.fn (s := fnOf Tryd.f84) rfl rfl rfl rfl ?_
  unfold wayErr at q
  by_cases c1 : a < 0 ∨ b < 0
  · rw [if_pos c1] at q
    repeat (first | (with_reducible first | refine W.seq ?_ | refine W.block ?_ | refine W.region ?_ | refine W.ret ?_ | refine SeqQ.normal ?_ | refine SeqQ.ret ?_ | refine BlockQ.ret ?_) | refine W.mn rfl rfl rfl rfl rfl ?_ | refine W.opn rfl op_lss rfl ?_ | refine W.opn (v := .int _ _) rfl rfl rfl ?_ | refine W.opn (v := .bool _) rfl rfl rfl ?_ | refine W.nil ?_ | refine W.cond (x := true) rfl (fun _ => ?_) (fun hc => by cases hc) | rw [decide_eq_true (by first | assumption | omega)])
    exact q
  rw [if_neg c1] at q
  by_cases c2 : a = b
  · rw [if_pos (.inl c2)] at q
    repeat (first | (with_reducible first | refine W.seq ?_ | refine W.block ?_ | refine W.region ?_ | refine W.ret ?_ | refine SeqQ.normal ?_ | refine SeqQ.ret ?_ | refine BlockQ.ret ?_) | refine W.offn rfl rfl ?_ | refine W.mn rfl rfl rfl rfl rfl ?_ | refine W.opn rfl op_lss rfl ?_ | refine W.opn rfl op_eql rfl ?_ | refine W.opn (v := .int _ _) rfl rfl rfl ?_ | refine W.opn (v := .bool _) rfl rfl rfl ?_ | refine W.nil ?_ | refine W.cond (x := true) rfl (fun _ => ?_) (fun hc => by cases hc) | refine W.cond (x := false) rfl (fun hc => by cases hc) (fun _ => ?_) | rw [decide_eq_true (by first | assumption | omega)] | rw [decide_eq_false (by first | assumption | omega)])
    exact q
  by_cases c3 : n < 1
  · rw [if_pos (.inr c3)] at q
    repeat (first | (with_reducible first | refine W.seq ?_ | refine W.block ?_ | refine W.region ?_ | refine W.ret ?_ | refine SeqQ.normal ?_ | refine SeqQ.ret ?_ | refine BlockQ.ret ?_) | refine W.mn rfl rfl rfl rfl rfl ?_ | refine W.opn rfl op_lss rfl ?_ | refine W.opn rfl op_eql rfl ?_ | refine W.opn (v := .int _ _) rfl rfl rfl ?_ | refine W.opn (v := .bool _) rfl rfl rfl ?_ | refine W.nil ?_ | refine W.cond (x := true) rfl (fun _ => ?_) (fun hc => by cases hc) | refine W.cond (x := false) rfl (fun hc => by cases hc) (fun _ => ?_) | rw [decide_eq_true (by first | assumption | omega)] | rw [decide_eq_false (by first | assumption | omega)])
    exact q
  rw [if_neg (fun h => h.elim c2 c3)] at q
  repeat (first | (with_reducible first | refine W.seq ?_ | refine W.block ?_ | refine W.region ?_ | refine W.skip ?_ | refine W.ret ?_ | refine SeqQ.normal ?_ | refine BlockQ.normal ?_) | refine W.mn rfl rfl rfl rfl rfl ?_ | refine W.opn rfl op_lss rfl ?_ | refine W.opn rfl op_eql rfl ?_ | refine W.opn (v := .int _ _) rfl rfl rfl ?_ | refine W.opn (v := .bool _) rfl rfl rfl ?_ | refine W.nil ?_ | refine W.cond (x := false) rfl (fun hc => by cases hc) (fun _ => ?_) | rw [decide_eq_false (by first | assumption | omega)])
  exact q
/-- What looks: a table, a world. -/
structure Chk (h : Heap) (cb : Nat) (w : WorldD) (tp : CV) : Prop where
  c : ∃ wb cs, LocE h cb 0 [tp, .ptr (some (wb, 0))] ∧ LocE h wb 0 cs ∧ Rp.R h cs w
theorem Chk.ext {h h' : Heap} {cb : Nat} {w : WorldD} {tp : CV} (o : Chk h cb w tp) (x : Ext h h') : Chk h' cb w tp := by
  obtain ⟨wb, cs, h1, h2, h3⟩ := o.c
  exact ⟨wb, cs, h1.ext x, h2.ext x, Rp.ext x h3⟩
theorem pathChk_w {h : Heap} {tm : Tm} {Q : R → Prop} {cb : Nat} {w : WorldD} {tp : CV} (ck : Chk h cb w tp) (i : Nat) (hi : i < w.paths.length) (q : ∀ h', Ext h h' → Q (.val (.int .i64 (PathW.err w.paths[i])) h')) : W E1 (.call (.fn 68 [.ptr (some (cb, 0))] []) [.int .i64 (i : Int)]) tm h Q := by
  obtain ⟨wb, cs, Lc, Lw, r⟩ := ck.c
  obtain ⟨v1, v2, v3, v4, v5, v6, v7, v8, v9, v10, v11, rfl, s1, s2, s3, s4, s5, s6, s7, s8, s9, s10, s11⟩ := r
  refine W.fn (s := fnOf Tryd.f68) rfl rfl rfl rfl ?_
  repeat (first | (with_reducible first | refine W.seq ?_ | refine W.region ?_ | refine SeqQ.normal ?_) | refine W.opn (v := .int _ _) rfl rfl rfl ?_ | refine W.opn (v := .ptr _) rfl rfl rfl ?_ | refine W.nil ?_ | refine W.ldk (by assumption) (by first | assumption | exact Ext.refl _ | ((repeat (first | assumption | refine Ext.trans ?_ (by assumption))); done)) rfl rfl rfl rfl rfl rfl rfl rfl ?_)
  refine W.ixF (by assumption) (by first | assumption | omega) rfl rfl rfl rfl rfl rfl rfl fun i_ o_ L_ => ?_
  repeat (first | (with_reducible first | refine W.seq ?_ | refine W.region ?_ | refine SeqQ.normal ?_) | refine W.var rfl rfl rfl rfl rfl rfl rfl rfl rfl (by first | rfl | assumption) rfl fun h_ X_ n_ g_ L_ => ?_ | refine W.opn (v := .ptr _) rfl rfl rfl ?_ | refine W.nil ?_ | refine W.ldk (by assumption) (by first | assumption | exact Ext.refl _ | ((repeat (first | assumption | refine Ext.trans ?_ (by assumption))); done)) rfl rfl rfl rfl rfl rfl rfl rfl ?_ | refine W.ldw (by assumption) (by first | assumption | exact Ext.refl _ | ((repeat (first | assumption | refine Ext.trans ?_ (by assumption))); done)) rfl rfl rfl rfl (by first | rfl | assumption) rfl rfl ?_)
  refine W.call rfl rfl rfl (way_w _ _ _ ?_)
  repeat (first | (with_reducible first | refine W.ret ?_ | refine SeqQ.normal ?_ | refine CallQ.val ?_) | refine W.opn (v := .int _ _) rfl rfl rfl ?_ | refine W.nil ?_)
  exact q _ X_
theorem tripChk_w {h : Heap} {tm : Tm} {Q : R → Prop} {cb : Nat} {w : WorldD} {tp : CV} (ck : Chk h cb w tp) (i : Nat) (hi : i < w.trips.length) (q : ∀ h', Ext h h' → Q (.val (.int .i64 (TripW.err w.trips[i])) h')) : W E1 (.call (.fn 71 [.ptr (some (cb, 0))] []) [.int .i64 (i : Int)]) tm h Q := by
  obtain ⟨wb, cs, Lc, Lw, r⟩ := ck.c
  obtain ⟨v1, v2, v3, v4, v5, v6, v7, v8, v9, v10, v11, rfl, s1, s2, s3, s4, s5, s6, s7, s8, s9, s10, s11⟩ := r
  refine W.fn (s := fnOf Tryd.f71) rfl rfl rfl rfl ?_
  repeat (first | (with_reducible first | refine W.seq ?_ | refine W.region ?_ | refine SeqQ.normal ?_) | refine W.opn (v := .int _ _) rfl rfl rfl ?_ | refine W.opn (v := .ptr _) rfl rfl rfl ?_ | refine W.nil ?_ | refine W.ldk (by assumption) (by first | assumption | exact Ext.refl _ | ((repeat (first | assumption | refine Ext.trans ?_ (by assumption))); done)) rfl rfl rfl rfl rfl rfl rfl rfl ?_)
  refine W.ixF (by assumption) (by first | assumption | omega) rfl rfl rfl rfl rfl rfl rfl fun i_ o_ L_ => ?_
  unfold TripW.err at q
  by_cases c1 : w.trips[i].route < 0
  · rw [if_pos c1] at q
    repeat (first | (with_reducible first | refine W.seq ?_ | refine W.block ?_ | refine W.region ?_ | refine W.ret ?_ | refine SeqQ.normal ?_ | refine SeqQ.ret ?_ | refine BlockQ.ret ?_) | refine W.var rfl rfl rfl rfl rfl rfl rfl rfl rfl (by first | rfl | assumption) rfl fun h_ X_ n_ g_ L_ => ?_ | refine W.opn rfl op_lss rfl ?_ | refine W.opn (v := .int _ _) rfl rfl rfl ?_ | refine W.opn (v := .ptr _) rfl rfl rfl ?_ | refine W.opn (v := .bool _) rfl rfl rfl ?_ | refine W.nil ?_ | refine W.ldk (by assumption) (by first | assumption | exact Ext.refl _ | ((repeat (first | assumption | refine Ext.trans ?_ (by assumption))); done)) rfl rfl rfl rfl rfl rfl rfl rfl ?_ | refine W.ldw (by assumption) (by first | assumption | exact Ext.refl _ | ((repeat (first | assumption | refine Ext.trans ?_ (by assumption))); done)) rfl rfl rfl rfl (by first | rfl | assumption) rfl rfl ?_ | refine W.cond (x := true) rfl (fun _ => ?_) (fun hc => by cases hc) | rw [decide_eq_true (by first | assumption | omega)])
    exact q _ X_
  rw [if_neg c1] at q
  by_cases c2 : w.trips[i].untl < w.trips[i].frm
  · rw [if_pos c2] at q
    repeat (first | (with_reducible first | refine W.seq ?_ | refine W.block ?_ | refine W.region ?_ | refine W.ret ?_ | refine SeqQ.normal ?_ | refine SeqQ.ret ?_ | refine BlockQ.ret ?_) | refine W.var rfl rfl rfl rfl rfl rfl rfl rfl rfl (by first | rfl | assumption) rfl fun h_ X_ n_ g_ L_ => ?_ | refine W.opn rfl op_lss rfl ?_ | refine W.opn (v := .int _ _) rfl rfl rfl ?_ | refine W.opn (v := .ptr _) rfl rfl rfl ?_ | refine W.opn (v := .bool _) rfl rfl rfl ?_ | refine W.nil ?_ | refine W.ldk (by assumption) (by first | assumption | exact Ext.refl _ | ((repeat (first | assumption | refine Ext.trans ?_ (by assumption))); done)) rfl rfl rfl rfl rfl rfl rfl rfl ?_ | refine W.ldw (by assumption) (by first | assumption | exact Ext.refl _ | ((repeat (first | assumption | refine Ext.trans ?_ (by assumption))); done)) rfl rfl rfl rfl (by first | rfl | assumption) rfl rfl ?_ | refine W.cond (x := true) rfl (fun _ => ?_) (fun hc => by cases hc) | refine W.cond (x := false) rfl (fun hc => by cases hc) (fun _ => ?_) | rw [decide_eq_true (by first | assumption | omega)] | rw [decide_eq_false (by first | assumption | omega)])
    exact q _ X_
  rw [if_neg c2] at q
  repeat (first | (with_reducible first | refine W.seq ?_ | refine W.block ?_ | refine W.region ?_ | refine W.skip ?_ | refine W.ret ?_ | refine SeqQ.normal ?_ | refine BlockQ.normal ?_) | refine W.var rfl rfl rfl rfl rfl rfl rfl rfl rfl (by first | rfl | assumption) rfl fun h_ X_ n_ g_ L_ => ?_ | refine W.opn rfl op_lss rfl ?_ | refine W.opn (v := .int _ _) rfl rfl rfl ?_ | refine W.opn (v := .ptr _) rfl rfl rfl ?_ | refine W.opn (v := .bool _) rfl rfl rfl ?_ | refine W.nil ?_ | refine W.ldk (by assumption) (by first | assumption | exact Ext.refl _ | ((repeat (first | assumption | refine Ext.trans ?_ (by assumption))); done)) rfl rfl rfl rfl rfl rfl rfl rfl ?_ | refine W.ldw (by assumption) (by first | assumption | exact Ext.refl _ | ((repeat (first | assumption | refine Ext.trans ?_ (by assumption))); done)) rfl rfl rfl rfl (by first | rfl | assumption) rfl rfl ?_ | refine W.cond (x := false) rfl (fun hc => by cases hc) (fun _ => ?_) | rw [decide_eq_false (by first | assumption | omega)])
  exact q _ X_
theorem fineChk_w {h : Heap} {tm : Tm} {Q : R → Prop} (c : CV) (i : Int) (q : Q (.val (.int .i64 0) h)) : W E1 (.call (.fn 67 [c] []) [.int .i64 i]) tm h Q := by
  refine W.fn (s := fnOf Tryd.f67) rfl rfl rfl rfl ?_
  repeat (first | (with_reducible first | refine W.seq ?_ | refine W.region ?_ | refine W.ret ?_ | refine SeqQ.normal ?_) | refine W.opn (v := .int _ _) rfl rfl rfl ?_ | refine W.nil ?_)
  exact q
end
end Go.Proofs.YtmgpjfnlciapkaaDoor

noncomputable section
namespace Go.CM
set_option linter.unusedVariables false
set_option linter.unusedSimpArgs false
section
variable {E : Env} {tm : Tm} {h : Heap} {Q : R → Prop} {all rest : List Oper} {o : Oper}
/-- A quotient of numbers from nought on. -/
theorem W.quo {t ty : TypeId} {x y : Operand} {a b : Int} {a0 a1 a2 a3 a4 a5 a6 a7 a8 a9 a10 a11 a12 a13 a14 a15 : NA} {a16 : Tree CV} (ha : 0 ≤ a) (hl : a ≤ 9223372036854775807) (hb : 0 < b) (hgd : guardOn all tm o = some true) (hop : o.op = .binOp .quo t x y ty)
    (hx : binop E .quo t (isConst x || isConst y) (cvOf E.globs tm x) (cvOf E.globs tm y) = intBin .quo .i64 a b)
    (ht : putTmp tm o.dst (.int .i64 (a / b)) = (Tm.mk a0 a1 a2 a3 a4 a5 a6 a7 a8 a9 a10 a11 a12 a13 a14 a15 a16)) (w : W E (.ops all rest) (Tm.mk a0 a1 a2 a3 a4 a5 a6 a7 a8 a9 a10 a11 a12 a13 a14 a15 a16) h Q) : W E (.ops all (o :: rest)) tm h Q := by
  refine W.op hgd (v := .int .i64 (a / b)) (h1 := h) ?_ (by rw [ht]; exact w)
  unfold opAny
  rw [hop]
  show withH h (binop E .quo t (isConst x || isConst y) (cvOf E.globs tm x) (cvOf E.globs tm y)) = _
  rw [hx]
  unfold intBin
  simp only [intEq_eq]
  have hb0 : (b == 0) = false := by simp; omega
  rw [hb0]
  have e : a.tdiv b = a / b := Int.tdiv_eq_ediv_of_nonneg ha
  have h1 : a / b ≤ a := Int.ediv_le_self b ha
  have h2 : 0 ≤ a / b := Int.ediv_nonneg ha (by omega)
  show withH h (some (.int .i64 (IntKind.i64.wrap (a.tdiv b)))) = _
  rw [e, show IntKind.i64.wrap (a / b) = a / b from IntWalk.i64_in _ (by omega)]
  rfl
end
end Go.CM

namespace Go.Proofs.YtmgpjfnlciapkaaDoor
set_option linter.unusedVariables false
set_option linter.unusedSimpArgs false
open Go Go.CM Go.CM.Tt
noncomputable section
set_option maxHeartbeats 8000000

theorem timesCheck_w {h : Heap} {tm : Tm} {Q : R → Prop} (t : Times) (q : ∀ h' (e : Int), Ext h h' → (t.ok → e = 0) → (¬ t.ok → e = 2) → Q (.val (.int .i64 e) h')) : W E1 (.call (.fn 93 [] []) [.agg t.enc]) tm h Q := by
  refine W.fn (s := fnOf Tryd.f93) rfl rfl rfl rfl ?_
  repeat (first | (with_reducible first | refine W.seq ?_ | refine W.region ?_ | refine SeqQ.normal ?_) | refine W.box rfl rfl rfl fun h_ X_ n_ g_ L_ => ?_ | refine W.opn (v := .int _ _) rfl rfl rfl ?_ | refine W.opn (v := .ptr _) rfl rfl rfl ?_ | refine W.nil ?_ | refine W.ldk (by assumption) (by first | assumption | exact Ext.refl _ | ((repeat (first | assumption | refine Ext.trans ?_ (by assumption))); done)) rfl rfl rfl rfl rfl rfl rfl rfl ?_)
  refine W.call rfl rfl rfl (tick_w t.frm fun e he => ?_)
  by_cases c0 : e = 0
  rotate_left
  · repeat (first | (with_reducible first | refine W.seq ?_ | refine W.region ?_ | refine W.ret ?_ | refine SeqQ.normal ?_ | refine SeqQ.ret ?_ | refine CallQ.val ?_) | refine W.offn rfl rfl ?_ | refine W.opn rfl op_neq rfl ?_ | refine W.opn (v := .int _ _) rfl rfl rfl ?_ | refine W.opn (v := .bool _) rfl rfl rfl ?_ | refine W.nil ?_ | refine W.cond (x := true) rfl (fun _ => ?_) (fun hc => by cases hc) | rw [decide_eq_true (by first | assumption | omega)])
    exact q _ 2 X_ (fun g => absurd (he.2 g.1) c0) (fun _ => rfl)
  by_cases c1 : t.len < 1
  · repeat (first | (with_reducible first | refine W.seq ?_ | refine W.region ?_ | refine W.ret ?_ | refine SeqQ.normal ?_ | refine SeqQ.ret ?_ | refine CallQ.val ?_) | refine W.offn rfl rfl ?_ | refine W.opn rfl op_lss rfl ?_ | refine W.opn rfl op_neq rfl ?_ | refine W.opn (v := .int _ _) rfl rfl rfl ?_ | refine W.opn (v := .ptr _) rfl rfl rfl ?_ | refine W.opn (v := .bool _) rfl rfl rfl ?_ | refine W.nil ?_ | refine W.ldk (by assumption) (by first | assumption | exact Ext.refl _ | ((repeat (first | assumption | refine Ext.trans ?_ (by assumption))); done)) rfl rfl rfl rfl rfl rfl rfl rfl ?_ | refine W.cond (x := true) rfl (fun _ => ?_) (fun hc => by cases hc) | rw [decide_eq_true (by first | assumption | omega)] | rw [decide_eq_false (by first | assumption | omega)])
    exact q _ 2 X_ (fun g => by have := g.2.1; omega) (fun _ => rfl)
  by_cases c2 : 1099511627776 < t.len
  · repeat (first | (with_reducible first | refine W.seq ?_ | refine W.region ?_ | refine W.ret ?_ | refine SeqQ.normal ?_ | refine SeqQ.ret ?_ | refine CallQ.val ?_) | refine W.offn rfl rfl ?_ | refine W.opn rfl op_lss rfl ?_ | refine W.opn rfl op_neq rfl ?_ | refine W.opn (v := .int _ _) rfl rfl rfl ?_ | refine W.opn (v := .ptr _) rfl rfl rfl ?_ | refine W.opn (v := .bool _) rfl rfl rfl ?_ | refine W.nil ?_ | refine W.ldk (by assumption) (by first | assumption | exact Ext.refl _ | ((repeat (first | assumption | refine Ext.trans ?_ (by assumption))); done)) rfl rfl rfl rfl rfl rfl rfl rfl ?_ | refine W.cond (x := true) rfl (fun _ => ?_) (fun hc => by cases hc) | rw [decide_eq_true (by first | assumption | omega)] | rw [decide_eq_false (by first | assumption | omega)])
    exact q _ 2 X_ (fun g => by have := g.2.2.1; omega) (fun _ => rfl)
  by_cases c3 : t.evr = 0
  · repeat (first | (with_reducible first | refine W.seq ?_ | refine W.region ?_ | refine W.skip ?_ | refine W.ret ?_ | refine SeqQ.normal ?_ | refine CallQ.val ?_) | refine W.offn rfl rfl ?_ | refine W.opn rfl op_lss rfl ?_ | refine W.opn rfl op_neq rfl ?_ | refine W.opn (v := .int _ _) rfl rfl rfl ?_ | refine W.opn (v := .ptr _) rfl rfl rfl ?_ | refine W.opn (v := .bool _) rfl rfl rfl ?_ | refine W.nil ?_ | refine W.ldk (by assumption) (by first | assumption | exact Ext.refl _ | ((repeat (first | assumption | refine Ext.trans ?_ (by assumption))); done)) rfl rfl rfl rfl rfl rfl rfl rfl ?_ | refine W.cond (x := false) rfl (fun hc => by cases hc) (fun _ => ?_) | rw [decide_eq_false (by first | assumption | omega)])
    exact q _ 0 X_ (fun _ => rfl) (fun g => absurd ⟨he.1 c0, by omega, by omega, .inl c3⟩ g)
  by_cases c4 : t.evr < t.len
  · repeat (first | (with_reducible first | refine W.seq ?_ | refine W.region ?_ | refine W.ret ?_ | refine SeqQ.normal ?_ | refine SeqQ.ret ?_ | refine CallQ.val ?_) | refine W.offn rfl rfl ?_ | refine W.opn rfl op_lss rfl ?_ | refine W.opn rfl op_neq rfl ?_ | refine W.opn (v := .int _ _) rfl rfl rfl ?_ | refine W.opn (v := .ptr _) rfl rfl rfl ?_ | refine W.opn (v := .bool _) rfl rfl rfl ?_ | refine W.nil ?_ | refine W.ldk (by assumption) (by first | assumption | exact Ext.refl _ | ((repeat (first | assumption | refine Ext.trans ?_ (by assumption))); done)) rfl rfl rfl rfl rfl rfl rfl rfl ?_ | refine W.cond (x := true) rfl (fun _ => ?_) (fun hc => by cases hc) | rw [decide_eq_true (by first | assumption | omega)] | rw [decide_eq_false (by first | assumption | omega)])
    exact q _ 2 X_ (fun g => by rcases g.2.2.2 with g | g; exact absurd g c3; omega) (fun _ => rfl)
  by_cases c5 : 1099511627776 < t.evr
  · repeat (first | (with_reducible first | refine W.seq ?_ | refine W.region ?_ | refine W.ret ?_ | refine SeqQ.normal ?_ | refine SeqQ.ret ?_ | refine CallQ.val ?_) | refine W.opn rfl op_lss rfl ?_ | refine W.opn rfl op_neq rfl ?_ | refine W.opn (v := .int _ _) rfl rfl rfl ?_ | refine W.opn (v := .ptr _) rfl rfl rfl ?_ | refine W.opn (v := .bool _) rfl rfl rfl ?_ | refine W.nil ?_ | refine W.ldk (by assumption) (by first | assumption | exact Ext.refl _ | ((repeat (first | assumption | refine Ext.trans ?_ (by assumption))); done)) rfl rfl rfl rfl rfl rfl rfl rfl ?_ | refine W.cond (x := true) rfl (fun _ => ?_) (fun hc => by cases hc) | rw [decide_eq_true (by first | assumption | omega)] | rw [decide_eq_false (by first | assumption | omega)])
    exact q _ 2 X_ (fun g => by rcases g.2.2.2 with g | g; exact absurd g c3; omega) (fun _ => rfl)
  repeat (first | (with_reducible first | refine W.seq ?_ | refine W.region ?_ | refine W.skip ?_ | refine W.ret ?_ | refine SeqQ.normal ?_ | refine CallQ.val ?_) | refine W.opn rfl op_lss rfl ?_ | refine W.opn rfl op_neq rfl ?_ | refine W.opn (v := .int _ _) rfl rfl rfl ?_ | refine W.opn (v := .ptr _) rfl rfl rfl ?_ | refine W.opn (v := .bool _) rfl rfl rfl ?_ | refine W.nil ?_ | refine W.ldk (by assumption) (by first | assumption | exact Ext.refl _ | ((repeat (first | assumption | refine Ext.trans ?_ (by assumption))); done)) rfl rfl rfl rfl rfl rfl rfl rfl ?_ | refine W.cond (x := false) rfl (fun hc => by cases hc) (fun _ => ?_) | rw [decide_eq_true (by first | assumption | omega)] | rw [decide_eq_false (by first | assumption | omega)])
  exact q _ 0 X_ (fun _ => rfl) (fun g => absurd ⟨he.1 c0, by omega, by omega, .inr ⟨by omega, by omega⟩⟩ g)

theorem count_w {h : Heap} {tm : Tm} {Q : R → Prop} (f e u : Int) (hf : TickOk f) (he : TickOk e) (hu : TickOk u) (q : Q (.val (.int .i64 (countT f e u)) h)) : W E1 (.call (.fn 94 [] []) [.int .i64 f, .int .i64 e, .int .i64 u]) tm h Q := by
  refine W.fn (s := fnOf Tryd.f94) rfl rfl rfl rfl ?_
  have f0 := hf.1
  have f1 := hf.2
  have e0 := he.1
  have u1 := hu.2
  unfold countT at q
  repeat (first | (with_reducible first | refine W.seq ?_ | refine W.block ?_ | refine W.region ?_ | refine SeqQ.normal ?_) | refine W.opn (v := .int _ _) rfl rfl rfl ?_ | refine W.nil ?_)
  refine W.call rfl rfl rfl (tick_w f fun a ha => ?_)
  have a0 := ha.2 hf
  subst a0
  repeat (first | (with_reducible first | refine CallQ.val ?_) | refine W.opn rfl op_neq rfl ?_ | refine W.opn (v := .int _ _) rfl rfl rfl ?_ | refine W.opn (v := .bool _) rfl rfl rfl ?_ | rw [decide_eq_false (by first | assumption | omega)])
  refine W.call rfl rfl rfl (tick_w e fun b hb => ?_)
  have b0 := hb.2 he
  subst b0
  repeat (first | (with_reducible first | refine CallQ.val ?_) | refine W.opn rfl op_neq rfl ?_ | refine W.opn (v := .int _ _) rfl rfl rfl ?_ | refine W.opn (v := .bool _) rfl rfl rfl ?_ | rw [decide_eq_false (by first | assumption | omega)])
  refine W.call rfl rfl rfl (tick_w u fun c hc => ?_)
  have c0 := hc.2 hu
  subst c0
  repeat (first | (with_reducible first | refine SeqQ.normal ?_ | refine CallQ.val ?_) | refine W.opn rfl op_lss rfl ?_ | refine W.opn rfl op_neq rfl ?_ | refine W.opn (v := .int _ _) rfl rfl rfl ?_ | refine W.opn (v := .bool _) rfl rfl rfl ?_ | refine W.nil ?_)
  by_cases c1 : u < f
  · rw [if_pos c1] at q
    repeat (first | (with_reducible first | refine W.seq ?_ | refine W.region ?_ | refine W.ret ?_ | refine SeqQ.normal ?_ | refine SeqQ.ret ?_ | refine BlockQ.ret ?_) | refine W.opn (v := .int _ _) rfl rfl rfl ?_ | refine W.nil ?_ | refine W.cond (x := true) rfl (fun _ => ?_) (fun hc => by cases hc) | rw [decide_eq_true (by first | assumption | omega)] | rw [decide_eq_false (by first | assumption | omega)])
    exact q
  rw [if_neg c1] at q
  by_cases c2 : e = 0
  · rw [if_pos c2] at q
    repeat (first | (with_reducible first | refine W.seq ?_ | refine W.region ?_ | refine W.ret ?_ | refine SeqQ.normal ?_ | refine SeqQ.ret ?_ | refine BlockQ.ret ?_) | refine W.opn rfl op_eql rfl ?_ | refine W.opn (v := .int _ _) rfl rfl rfl ?_ | refine W.opn (v := .bool _) rfl rfl rfl ?_ | refine W.nil ?_ | refine W.cond (x := true) rfl (fun _ => ?_) (fun hc => by cases hc) | refine W.cond (x := false) rfl (fun hc => by cases hc) (fun _ => ?_) | rw [decide_eq_true (by first | assumption | omega)] | rw [decide_eq_false (by first | assumption | omega)])
    exact q
  rw [if_neg c2] at q
  repeat (first | (with_reducible first | refine W.seq ?_ | refine W.region ?_ | refine W.skip ?_ | refine SeqQ.normal ?_ | refine BlockQ.normal ?_) | refine W.opn rfl op_eql rfl ?_ | refine W.opn rfl (op_sub (by omega) (by omega)) rfl ?_ | refine W.opn (v := .int _ _) rfl rfl rfl ?_ | refine W.opn (v := .bool _) rfl rfl rfl ?_ | refine W.nil ?_ | refine W.cond (x := false) rfl (fun hc => by cases hc) (fun _ => ?_) | rw [decide_eq_false (by first | assumption | omega)])
  have h1 : (u - f) / e ≤ u - f := Int.ediv_le_self e (by omega)
  have h2 : 0 ≤ (u - f) / e := Int.ediv_nonneg (by omega) e0
  refine W.quo (a := u - f) (b := e) (by omega) (by omega) (by omega) rfl rfl rfl rfl ?_
  repeat (first | (with_reducible first | refine W.ret ?_ | refine SeqQ.normal ?_) | refine W.opn rfl (op_add (by omega) (by omega)) rfl ?_ | refine W.opn (v := .int _ _) rfl rfl rfl ?_ | refine W.nil ?_)
  exact q
end
end Go.Proofs.YtmgpjfnlciapkaaDoor

namespace Go.CM.Wins
set_option linter.unusedVariables false
set_option linter.unusedSimpArgs false

/-- Windows that stand apart, in order, behind a tick. -/
def Good : List (Int × Int) → Int → Prop
  | [], _ => True
  | w :: r, b => b < w.1 ∧ w.1 < w.2 ∧ w.2 ≤ 2199023255552 ∧ Good r w.2
theorem Good.low : ∀ {l : List (Int × Int)} {b : Int}, Good l b → ∀ w ∈ l, b < w.1 ∧ w.1 < w.2 ∧ w.2 ≤ 2199023255552
  | [], _, _, w, h => by cases h
  | v :: r, b, g, w, h => by
    obtain ⟨g1, g2, g3, g4⟩ := g
    rcases List.mem_cons.1 h with rfl | h
    · exact ⟨g1, g2, g3⟩
    · have := Good.low g4 w h
      omega
/-- So many ticks from y on are in none. -/
def Free (n y : Int) (l : List (Int × Int)) : Prop := ∀ w ∈ l, w.2 ≤ y ∨ y + n ≤ w.1
/-- A tick is in one. -/
def In (y : Int) (l : List (Int × Int)) : Prop := ∃ w ∈ l, w.1 ≤ y ∧ y < w.2
def gap (n : Int) : List (Int × Int) → Int → Int
  | [], x => x
  | w :: r, x => if w.2 ≤ x then gap n r x else if x + n ≤ w.1 then x else gap n r w.2
def next : List (Int × Int) → Int → Option Int
  | [], _ => none
  | w :: r, x => if w.2 ≤ x then next r x else some (if x ≤ w.1 then w.1 else x)

theorem gap_ge (n : Int) : ∀ (l : List (Int × Int)) (x : Int), x ≤ gap n l x
  | [], x => Int.le_refl _
  | w :: r, x => by
    unfold gap
    split
    · exact gap_ge n r x
    · split
      · exact Int.le_refl _
      · have := gap_ge n r w.2
        omega
theorem gap_free {n : Int} (hn : 1 ≤ n) : ∀ {l : List (Int × Int)} {b x : Int}, Good l b → Free n (gap n l x) l
  | [], _, _, _ => fun w h => by cases h
  | v :: r, b, x, g => by
    obtain ⟨g1, g2, g3, g4⟩ := g
    intro w h
    unfold gap
    split
    · rename_i hv
      rcases List.mem_cons.1 h with rfl | h
      · have := gap_ge n r x
        exact .inl (by omega)
      · exact gap_free hn g4 w h
    · split
      · rcases List.mem_cons.1 h with rfl | h
        · exact .inr (by omega)
        · have := g4.low w h
          exact .inr (by omega)
      · rcases List.mem_cons.1 h with rfl | h
        · have := gap_ge n r w.2
          exact .inl (by omega)
        · exact gap_free hn g4 w h
theorem gap_least {n : Int} (hn : 1 ≤ n) : ∀ {l : List (Int × Int)} {b x y : Int}, Good l b → x ≤ y → Free n y l → gap n l x ≤ y
  | [], _, _, _, _, h, _ => h
  | v :: r, b, x, y, g, h, f => by
    obtain ⟨g1, g2, g3, g4⟩ := g
    have f2 : Free n y r := fun w hw => f w (List.mem_cons_of_mem _ hw)
    unfold gap
    split
    · exact gap_least hn g4 h f2
    · split
      · exact h
      · refine gap_least hn g4 ?_ f2
        rcases f v (by simp) with h1 | h1
        · exact h1
        · omega
theorem gap_same {n : Int} (hn : 1 ≤ n) {l : List (Int × Int)} {b x : Int} (g : Good l b) : gap n l x = x ↔ Free n x l := by
  constructor
  · intro h
    have := gap_free hn (x := x) g
    rwa [h] at this
  · intro h
    have h1 := gap_least hn g (Int.le_refl x) h
    have h2 := gap_ge n l x
    omega
theorem next_some : ∀ {l : List (Int × Int)} {b x y : Int}, Good l b → next l x = some y → x ≤ y ∧ In y l
  | [], _, _, _, _, h => by cases h
  | v :: r, b, x, y, g, h => by
    obtain ⟨g1, g2, g3, g4⟩ := g
    unfold next at h
    split at h
    · obtain ⟨h1, w, h2, h3⟩ := next_some g4 h
      exact ⟨h1, w, List.mem_cons_of_mem _ h2, h3⟩
    · cases h
      refine ⟨by split <;> omega, v, by simp, ?_, ?_⟩
      · split <;> omega
      · split <;> omega
theorem next_least : ∀ {l : List (Int × Int)} {b x z : Int}, Good l b → x ≤ z → In z l → ∃ y, next l x = some y ∧ y ≤ z
  | [], _, _, _, _, _, h => by obtain ⟨w, h, _⟩ := h; cases h
  | v :: r, b, x, z, g, hx, h => by
    obtain ⟨g1, g2, g3, g4⟩ := g
    unfold next
    obtain ⟨w, h1, h2, h3⟩ := h
    split
    · rename_i hv
      rcases List.mem_cons.1 h1 with rfl | h1
      · omega
      · exact next_least g4 hx ⟨w, h1, h2, h3⟩
    · refine ⟨_, rfl, ?_⟩
      rcases List.mem_cons.1 h1 with rfl | h1
      · split <;> omega
      · have := g4.low w h1
        split <;> omega
theorem next_same {l : List (Int × Int)} {b x : Int} (g : Good l b) : next l x = some x ↔ In x l := by
  constructor
  · intro h; exact (next_some g h).2
  · intro h
    obtain ⟨y, h1, h2⟩ := next_least g (Int.le_refl x) h
    have := (next_some g h1).1
    rw [h1, show y = x by omega]

/-- May a link be begun at a tick? By the windows of its stop, its own ones, its length. -/
structure Link where
  shut : List (Int × Int)
  door : Bool
  opn : List (Int × Int)
  closed : List (Int × Int)
  len : Int
structure Link.Ok (k : Link) : Prop where
  len : 1 ≤ k.len ∧ k.len ≤ 1099511627776
  shut : Good k.shut (-1)
  opn : Good k.opn (-1)
  closed : Good k.closed (-1)
def Link.May (k : Link) (y : Int) : Prop := Free 1 y k.shut ∧ (k.door = true → In y k.opn) ∧ (k.door = false → Free k.len y k.closed)
/-- The first tick from t on, no later than the last one. -/
def Link.First (k : Link) (last t : Int) : Option Int → Prop
  | none => ∀ y, t ≤ y → y ≤ last → ¬ k.May y
  | some a => t ≤ a ∧ a ≤ last ∧ k.May a ∧ ∀ y, t ≤ y → y < a → ¬ k.May y
end Go.CM.Wins

namespace Go.CM.Wins
set_option linter.unusedVariables false
set_option linter.unusedSimpArgs false

/-- Moved. -/
def mvW (b : Int) (l : List (Int × Int)) : List (Int × Int) := l.map fun w => (w.1 + b, w.2 + b)
theorem in_mv {b y : Int} {l : List (Int × Int)} : In (y + b) (mvW b l) ↔ In y l := by
  constructor
  · rintro ⟨w, hw, h1, h2⟩
    obtain ⟨u, hu, rfl⟩ := List.mem_map.1 hw
    simp only at h1 h2
    exact ⟨u, hu, by omega, by omega⟩
  · rintro ⟨u, hu, h1, h2⟩
    refine ⟨_, List.mem_map.2 ⟨u, hu, rfl⟩, ?_, ?_⟩
    · show u.1 + b ≤ y + b
      omega
    · show y + b < u.2 + b
      omega
theorem free_mv {n b y : Int} {l : List (Int × Int)} : Free n (y + b) (mvW b l) ↔ Free n y l := by
  constructor
  · intro f w hw
    have h : w.2 + b ≤ y + b ∨ y + b + n ≤ w.1 + b := f _ (List.mem_map.2 ⟨w, hw, rfl⟩)
    omega
  · intro f w hw
    obtain ⟨u, hu, rfl⟩ := List.mem_map.1 hw
    have h := f u hu
    show u.2 + b ≤ y + b ∨ y + b + n ≤ u.1 + b
    omega
def Link.mv (k : Link) (b : Int) : Link := ⟨mvW b k.shut, k.door, mvW b k.opn, mvW b k.closed, k.len⟩
theorem may_mv {k : Link} {b y : Int} : (k.mv b).May (y + b) ↔ k.May y := by
  unfold Link.May Link.mv
  simp only [free_mv, in_mv]
theorem first_mv {k : Link} {last t b : Int} {r : Option Int} (h : k.First last t r) : (k.mv b).First (last + b) (t + b) (r.map (· + b)) := by
  have back : ∀ y, (k.mv b).May y → k.May (y - b) := fun y hy => by
    have e : y = (y - b) + b := by omega
    rw [e] at hy
    exact may_mv.1 hy
  cases r with
  | none => exact fun y h1 h2 hm => h (y - b) (by omega) (by omega) (back y hm)
  | some a =>
    obtain ⟨h1, h2, h3, h4⟩ := h
    refine ⟨?_, ?_, may_mv.2 h3, fun y g1 g2 hm => h4 (y - b) (by omega) ?_ (back y hm)⟩
    · show t + b ≤ a + b
      omega
    · show a + b ≤ last + b
      omega
    · have g2 : y < a + b := g2
      omega
/-- There is but one first tick. -/
theorem first_unique {k : Link} {last t : Int} {r r' : Option Int} (h : k.First last t r) (h' : k.First last t r') : r = r' := by
  cases r with
  | none =>
    cases r' with
    | none => rfl
    | some a => exact absurd h'.2.2.1 (h a h'.1 h'.2.1)
  | some a =>
    cases r' with
    | none => exact absurd h.2.2.1 (h' a h.1 h.2.1)
    | some c =>
      have : a = c := by
        by_cases h1 : a < c
        · exact absurd h.2.2.1 (h'.2.2.2 a h.1 h1)
        · by_cases h2 : c < a
          · exact absurd h'.2.2.1 (h.2.2.2 c h'.1 h2)
          · omega
      rw [this]
/-- Whoever may less is no earlier. -/
theorem first_less {k k' : Link} {last t : Int} {r r' : Option Int} (hl : last ≤ 1099511627776) (sub : ∀ y, k'.May y → k.May y) (h : k.First last t r) (h' : k'.First last t r') : r.getD 4611686018427387904 ≤ r'.getD 4611686018427387904 := by
  cases r' with
  | none =>
    cases r with
    | none => exact Int.le_refl _
    | some a => have := h.2.1; show a ≤ 4611686018427387904; omega
  | some c =>
    have hc := sub c h'.2.2.1
    cases r with
    | none => exact absurd hc (h c h'.1 h'.2.1)
    | some a =>
      show a ≤ c
      by_cases hh : a ≤ c
      · exact hh
      · exact absurd hc (h.2.2.2 c h'.1 (by omega))
end Go.CM.Wins
