/- An element's address in drawn regions. No condition, no program. -/
import Derived.Test.YtmgpjfnlciapkaaGreatDoorYQ
set_option linter.unusedVariables false
set_option linter.unusedSimpArgs false
noncomputable section
namespace Go.CM
section
variable {E : Env} {tm : Tm} {H H0 h h' : Heap} {Q : R → Prop} {all rest : List Oper} {o : Oper} {bs : List Bits} {recs : List Rec} {i : Nat}
theorem W.dixF {α : Type} [Flat α] {l : List α} {v : CV} {t : TypeId} {x y : Operand} {s : TyS} {et j : Nat} {kk : IntKind} (sl : Sl H v l) (hj : j < l.length) (hgd : guardOn all tm o = some true) (hop : o.op = .indexAddr t x y) (hx : cvOf E.globs tm x = v) (hy : cvOf E.globs tm y = .int kk (j : Int)) (hs : E.ty t = some s) (hk : s.kind = .slice et) (hz : sizeOf? E et = some (Rp.z α))
    (w : ∀ id off, LocE H id off (Flat.enc l[j]) → W E (.draw bs all rest (i + 1) recs) (putTmp tm o.dst (.ptr (some (id, off)))) h Q) : W E (.draw bs all (o :: rest) i recs) tm h Q := by
  obtain ⟨id, off, c, x', e, rfl, L, r⟩ := sl.at hj
  exact W.dix hgd hop hx hy hs hk hz (place_of rfl hj) (w _ _ (by rw [← (Flat.iff H e l[j]).1 r]; exact L))
end
end Go.CM

namespace Go.Proofs.YtmgpjfnlciapkaaGreatDoor
open Go Go.CM Go.CM.Tt
noncomputable section
set_option maxHeartbeats 8000000
theorem routeChk_w {h : Heap} {tm : Tm} {Q : R → Prop} {cb : Nat} {w : WorldD} {tp : CV} (ck : Chk h cb w tp) (fr : Fresh h) (i : Nat) (hi : i < w.routes.length) (hl : w.routes[i].rides.length + 1 = w.routes[i].stops.length) (hs : w.routes[i].stops.length ≤ 1000) (q : ∀ h', Ext h h' → Q (.val (.int .i64 (RouteW.err w.routes[i])) h')) : W E1 (.call (.fn 112 [.ptr (some (cb, 0))] []) [.int .i64 (i : Int)]) tm h Q := by
  obtain ⟨wb, cs, Lc, Lw, r⟩ := ck.c
  obtain ⟨v1, v2, v3, v4, v5, v6, v7, v8, v9, v10, v11, rfl, s1, s2, s3, s4, s5, s6, s7, s8, s9, s10, s11⟩ := r
  refine W.fn (s := fnOf Tryz.f112) rfl rfl rfl rfl ?_
  obtain ⟨r, hr⟩ : ∃ r, r = w.routes[i] := ⟨_, rfl⟩
  unfold RouteW.err at q
  rw [← hr] at hl hs q
  repeat (first | (with_reducible first | refine W.seq ?_ | refine W.region ?_ | refine SeqQ.normal ?_) | refine W.opn (v := .int _ _) rfl rfl rfl ?_ | refine W.opn (v := .ptr _) rfl rfl rfl ?_ | refine W.nil ?_ | refine W.ldk (by assumption) (by (repeat (first | assumption | exact Ext.refl _ | refine Ext.trans ?_ (by assumption))); done) rfl rfl rfl rfl rfl rfl rfl rfl ?_)
  refine W.ixR s9 hi rfl rfl rfl rfl rfl rfl rfl fun i_ o_ e L_ r_ => ?_
  rw [← hr] at r_
  obtain ⟨u1, u2, u3, rfl, t1, t2, t3⟩ := r_
  repeat (first | (with_reducible first | refine W.seq ?_ | refine W.region ?_ | refine SeqQ.normal ?_) | refine W.var rfl rfl rfl rfl rfl rfl rfl rfl rfl (by first | rfl | assumption) rfl fun h_ X_ n_ g_ L_ => ?_ | refine W.opn (v := .ptr _) rfl rfl rfl ?_ | refine W.nil ?_ | refine W.ldk (by assumption) (by (repeat (first | assumption | exact Ext.refl _ | refine Ext.trans ?_ (by assumption))); done) rfl rfl rfl rfl rfl rfl rfl rfl ?_ | refine W.ldw (by assumption) (by (repeat (first | assumption | exact Ext.refl _ | refine Ext.trans ?_ (by assumption))); done) rfl rfl rfl rfl (by first | rfl | assumption) rfl rfl ?_)
  have X0 := X_
  have L0 : LocE h_ h.next 0 [u1, u2, u3] := L_
  obtain ⟨H, hH⟩ : ∃ H, H = h_ := ⟨_, rfl⟩
  rw [← hH] at X0 L0
  refine W.call rfl rfl rfl (containsI_w (-1) (t1.ext X_) (by omega) fun b hb => ?_)
  cases b
  rotate_left
  · rw [if_pos (hb.1 rfl)] at q
    repeat (first | (with_reducible first | refine W.seq ?_ | refine W.region ?_ | refine W.ret ?_ | refine SeqQ.normal ?_ | refine SeqQ.ret ?_ | refine CallQ.val ?_) | refine W.opn (v := .int _ _) rfl rfl rfl ?_ | refine W.nil ?_ | refine W.cond (x := true) rfl (fun _ => ?_) (fun hc => by cases hc))
    exact q _ X_
  have hno : ¬ (-1 : Int) ∈ r.stops := fun h => by cases hb.2 h
  rw [if_neg hno] at q
  refine W.keep2 5 20 fun T k5 k20 => ?_
  conv at k5 => rhs; whnf
  conv at k20 => rhs; whnf
  rw [show T = ((T.set 5 (some (T.look 5))).set 20 (some (T.look 20))) from rfl, k5, k20]
  clear k5 k20
  rw [← hH]
  clear hH X_ n_ g_ L_
  repeat (first | (with_reducible first | refine W.seq ?_ | refine W.block ?_ | refine W.region ?_ | refine W.skip ?_ | refine SeqQ.normal ?_) | refine W.lnS (by assumption) rfl rfl rfl rfl rfl rfl rfl rfl ?_ | refine W.opn (v := .int _ _) rfl rfl rfl ?_ | refine W.opn (v := .ptr _) rfl rfl rfl ?_ | refine W.nil ?_ | refine W.ldk (by assumption) (by (repeat (first | assumption | exact Ext.refl _ | refine Ext.trans ?_ (by assumption))); done) rfl rfl rfl rfl rfl rfl rfl rfl ?_ | refine W.cond (x := false) rfl (fun hc => by cases hc) (fun _ => ?_))
  refine W.loop (σ := Nat) (fun k tm h' => Ext H h' ∧ tm.look 5 = .ptr (some (h.next, 0)) ∧ tm.look 22 = u2 ∧ tm.look 23 = .int .i64 (r.rides.length : Int) ∧ tm.look 24 = .int .i64 (k : Int) ∧ k ≤ r.rides.length ∧ ∀ j, j < k → ¬ r.badAt j) (fun k => r.rides.length - k) ?_ (s := 0)
    ⟨Ext.refl _, rfl, rfl, rfl, rfl, Nat.zero_le _, fun j hj => by omega⟩
  rintro k tm h' ⟨X, w5, w22, w23, w24, hk, hn⟩
  obtain ⟨T, rfl⟩ : ∃ T : Tm, tm = ((((T.set 5 (some (.ptr (some (h.next, 0))))).set 22 (some (u2))).set 23 (some (.int .i64 (r.rides.length : Int)))).set 24 (some (.int .i64 (k : Int)))) := ⟨tm, (show tm = ((((tm.set 5 (some (tm.look 5))).set 22 (some (tm.look 22))).set 23 (some (tm.look 23))).set 24 (some (tm.look 24))) by rfl).trans (by rw [w5, w22, w23, w24])⟩
  clear w5 w22 w23 w24
  by_cases c1 : k < r.rides.length
  rotate_left
  · repeat (first | (with_reducible first | refine W.seq ?_ | refine W.region ?_ | refine W.exit ?_ | refine W.ret ?_ | refine SeqQ.normal ?_ | refine SeqQ.exit ?_ | refine BlockQ.exit ?_ | refine LoopQ.exit ?_) | refine W.opn rfl op_lss rfl ?_ | refine W.opn (v := .int _ _) rfl rfl rfl ?_ | refine W.nil ?_ | refine W.cond (x := false) rfl (fun hc => by cases hc) (fun _ => ?_) | rw [decide_eq_false (by first | assumption | omega)])
    rw [if_neg (fun ⟨j, hj, hb⟩ => hn j (by omega) hb)] at q
    exact q _ (X0.trans X)
  have Xh := X0.trans X
  have g0 : r.rides.getD k 0 = r.rides[k] := by simp [List.getD, List.getElem?_eq_getElem c1]
  have g1 : r.stops.getD k 0 = r.stops[k] := by simp [List.getD, List.getElem?_eq_getElem (show k < r.stops.length by omega)]
  have g2 : r.stops.getD (k + 1) 0 = r.stops[k + 1] := by simp [List.getD, List.getElem?_eq_getElem (show k + 1 < r.stops.length by omega)]
  repeat (first | (with_reducible first | refine W.seq ?_ | refine W.block ?_ | refine W.region ?_ | refine W.skip ?_ | refine SeqQ.normal ?_) | refine W.opn rfl op_lss rfl ?_ | refine W.opn (v := .int _ _) rfl rfl rfl ?_ | refine W.nil ?_ | refine W.cond (x := true) rfl (fun _ => ?_) (fun hc => by cases hc) | rw [decide_eq_true (by first | assumption | omega)])
  refine W.ixF (by assumption) (by first | assumption | omega) rfl rfl rfl rfl rfl rfl rfl fun i_ o_ L_ => ?_
  repeat (first | (with_reducible first | refine W.seq ?_ | refine W.draws ?_ | refine SeqQ.normal ?_) | refine W.opn (v := .int _ _) rfl rfl rfl ?_ | refine W.nil ?_ | refine W.ld0 (by assumption) (by (repeat (first | assumption | exact Ext.refl _ | refine Ext.trans ?_ (by assumption))); done) rfl rfl rfl rfl rfl rfl rfl rfl ?_)
  have ds := DX.start (Xh.fr fr)
  by_cases c2 : r.rides[k] < 1
  · repeat (first | refine W.doffn rfl rfl ?_ | refine W.dopn rfl rfl op_lss rfl ?_ | refine W.dopn (v := .int _ _) rfl rfl rfl rfl ?_ | refine W.dopn (v := .bool _) rfl rfl rfl rfl ?_ | refine W.dnil ?_ | rw [decide_eq_true (by first | assumption | omega)])
    repeat (first | (with_reducible first | refine W.seq ?_ | refine W.region ?_ | refine W.ret ?_ | refine SeqQ.normal ?_ | refine SeqQ.ret ?_ | refine BlockQ.ret ?_ | refine LoopQ.ret ?_) | refine W.opn (v := .int _ _) rfl rfl rfl ?_ | refine W.nil ?_ | refine W.cond (x := true) rfl (fun _ => ?_) (fun hc => by cases hc))
    rw [if_pos ⟨k, c1, .inl (by rw [g0]; exact c2)⟩] at q
    exact q _ (Xh.trans ds.x)
  repeat (first | refine W.dopn rfl rfl op_lss rfl ?_ | refine W.dopn (v := .int _ _) rfl rfl rfl rfl ?_ | refine W.dopn (v := .ptr _) rfl rfl rfl rfl ?_ | refine W.dopn (v := .bool _) rfl rfl rfl rfl ?_ | refine W.dl0 (by assumption) (by assumption) (by (repeat (first | assumption | exact Ext.refl _ | refine Ext.trans ?_ (by assumption))); done) rfl rfl rfl rfl rfl rfl rfl fun r_ h_ ds_ s_ => ?_ | rw [decide_eq_false (by first | assumption | omega)])
  refine W.dixF (j := k) t1 (by omega) rfl rfl rfl rfl rfl rfl rfl fun i1 o1 L1 => ?_
  repeat (first | refine W.dopn rfl rfl (op_add (by omega) (by omega)) rfl ?_ | refine W.dopn (v := .int _ _) rfl rfl rfl rfl ?_ | refine W.dopn (v := .ptr _) rfl rfl rfl rfl ?_ | refine W.dl0 (by assumption) (by assumption) (by (repeat (first | assumption | exact Ext.refl _ | refine Ext.trans ?_ (by assumption))); done) rfl rfl rfl rfl rfl rfl rfl fun r_ h_ ds_ s_ => ?_)
  refine W.dixF (j := k + 1) t1 (by omega) rfl rfl rfl rfl rfl rfl rfl fun i2 o2 L2 => ?_
  repeat (first | refine W.dopn rfl rfl op_eql rfl ?_ | refine W.dopn (v := .bool _) rfl rfl rfl rfl ?_ | refine W.dnil ?_ | refine W.dl0 (by assumption) (by assumption) (by (repeat (first | assumption | exact Ext.refl _ | refine Ext.trans ?_ (by assumption))); done) rfl rfl rfl rfl rfl rfl rfl fun r_ h_ ds_ s_ => ?_)
  have X9 := ds_.x
  by_cases c3 : r.stops[k] = r.stops[k + 1]
  · repeat (first | rw [decide_eq_true (by first | assumption | omega)])
    repeat (first | (with_reducible first | refine W.seq ?_ | refine W.region ?_ | refine W.ret ?_ | refine SeqQ.normal ?_ | refine SeqQ.ret ?_ | refine BlockQ.ret ?_ | refine LoopQ.ret ?_) | refine W.opn (v := .int _ _) rfl rfl rfl ?_ | refine W.nil ?_ | refine W.cond (x := true) rfl (fun _ => ?_) (fun hc => by cases hc))
    rw [if_pos ⟨k, c1, .inr (by rw [g1, g2]; exact c3)⟩] at q
    exact q _ (Xh.trans X9)
  · repeat (first | rw [decide_eq_false (by first | assumption | omega)])
    repeat (first | (with_reducible first | refine W.region ?_ | refine W.skip ?_ | refine SeqQ.normal ?_ | refine BlockQ.normal ?_) | refine W.opn rfl (op_add (by omega) (by omega)) rfl ?_ | refine W.opn (v := .int _ _) rfl rfl rfl ?_ | refine W.nil ?_ | refine W.cond (x := false) rfl (fun hc => by cases hc) (fun _ => ?_))
    refine ⟨k + 1, lessN c1, X.trans X9, rfl, rfl, rfl, rfl, c1, fun j hj hb => ?_⟩
    by_cases e : j = k
    · subst e
      rcases hb with hb | hb
      · rw [g0] at hb; exact c2 hb
      · rw [g1, g2] at hb; exact c3 hb
    · exact hn j (by omega) hb
end
end Go.Proofs.YtmgpjfnlciapkaaGreatDoor

namespace Go.Proofs.YtmgpjfnlciapkaaGreatDoor
open Go Go.CM Go.CM.Tt
noncomputable section
set_option maxHeartbeats 8000000
theorem kinds_w {h : Heap} {tm : Tm} {Q : R → Prop} {p o : Nat} (fr : Fresh h) (q : ∀ h' z, Ext h h' → h.next ≤ z → z < h'.next → LocE h' z 0 [.slice none 0 0 0] → Q (.val (.agg [.ptr (some (z, 0)), .ptr (some (p, o + 0)), .ptr (some (p, o + 1)), .ptr (some (p, o + 2)), .ptr (some (p, o + 3)), .ptr (some (p, o + 4)), .ptr (some (p, o + 5))]) h')) : W E1 (.call (.fn 27 [] []) [.ptr (some (p, o))]) tm h Q := by
  refine W.fn (s := fnOf Tryz.f27) rfl rfl rfl rfl ?_
  repeat (first | (with_reducible first | refine W.seq ?_ | refine W.region ?_ | refine W.draws ?_ | refine SeqQ.normal ?_) | refine W.al rfl rfl rfl fun h_ X_ n_ g_ L_ => ?_ | refine W.nil ?_)
  have ds := DX.start (X_.fr fr)
  refine W.dalZ ds rfl rfl rfl fun r1 h1 ds1 x1 n1 g1 => ?_
  repeat (first | refine W.dopn (v := .ptr _) rfl rfl rfl rfl ?_ | refine W.dopn (v := .agg _) rfl rfl rfl rfl ?_)
  refine W.dst (vs := [.ptr (some (h_.next, 0)), .ptr (some (p, o + 0)), .ptr (some (p, o + 1)), .ptr (some (p, o + 2)), .ptr (some (p, o + 3)), .ptr (some (p, o + 4)), .ptr (some (p, o + 5))]) (cs' := [.ptr (some (h_.next, 0)), .ptr (some (p, o + 0)), .ptr (some (p, o + 1)), .ptr (some (p, o + 2)), .ptr (some (p, o + 3)), .ptr (some (p, o + 4)), .ptr (some (p, o + 5))]) ds1.hri rfl rfl rfl rfl rfl rfl rfl ((ds1.x.old h.next (by omega)).trans g_) rfl fun r4 h4 hr4 s4 => ?_
  have g4 : h4.get h.next = some (.cells [.ptr (some (h_.next, 0)), .ptr (some (p, o + 0)), .ptr (some (p, o + 1)), .ptr (some (p, o + 2)), .ptr (some (p, o + 3)), .ptr (some (p, o + 4)), .ptr (some (p, o + 5))] false) := by rw [s4.get, put_same]
  have Xf : Ext h h4 := ((X_.trans x1).put (Nat.le_refl _) (by omega) _).trans s4.ext
  repeat (first | refine W.dnil ?_)
  repeat (first | (with_reducible first | refine W.ret ?_ | refine SeqQ.normal ?_))
  refine BodyQ.cell1 rfl rfl g4 rfl rfl ?_
  refine q _ h_.next Xf (by omega) (by rw [s4.next]; show h_.next < h1.next; omega) ⟨_, _, (by rw [s4.get, Heap.get_put, if_neg (by omega)]; exact g1), by rw [s4.next]; show h_.next < h1.next; omega, rfl⟩
structure TabR (h : Heap) (lo tb : Nat) (P : Nat → Prop) (names : List Str) : Prop where
  c : ∃ v mb es clock, h.get tb = some (.cells [v, .map (some mb)] false) ∧ tb < h.next ∧ OwnR h lo 1 v (names.map Flat.enc) ∧ h.get mb = some (.map es clock) ∧ mb < h.next ∧ es.map (·.key) = names.map CV.str ∧ lo ≤ tb ∧ lo ≤ mb ∧ tb ≠ mb ∧ idOf v ≠ [tb] ∧ idOf v ≠ [mb] ∧ ∀ k, P k → k < h.next ∧ k ≠ tb ∧ k ≠ mb ∧ idOf v ≠ [k]
theorem TabR.grow {h h' : Heap} {lo tb : Nat} {P : Nat → Prop} {names : List Str} (t : TabR h lo tb P names) (x : Ext h h') : TabR h' lo tb (fun k => P k ∨ (h.next ≤ k ∧ k < h'.next)) names := by
  obtain ⟨v, mb, es, clock, gt, lt, O, gm, lm, ek, lo1, lo2, ne1, ne2, ne3, hp⟩ := t.c
  refine ⟨v, mb, es, clock, (x.old _ lt).trans gt, Nat.lt_of_lt_of_le lt x.next, O.ext x, (x.old _ lm).trans gm, Nat.lt_of_lt_of_le lm x.next, ek, lo1, lo2, ne1, ne2, ne3, fun k hk => ?_⟩
  rcases hk with hk | ⟨h1, h2⟩
  · obtain ⟨g1, g2⟩ := hp k hk
    exact ⟨Nat.lt_of_lt_of_le g1 x.next, g2⟩
  · refine ⟨h2, by omega, by omega, fun e => ?_⟩
    have := (O.idlt e).1
    omega
theorem TabR.ext {h h' : Heap} {lo tb : Nat} {P : Nat → Prop} {names : List Str} (t : TabR h lo tb P names) (x : Ext h h') : TabR h' lo tb P names := by
  obtain ⟨v, mb, es, clock, gt, lt, O, gm, lm, ek, lo1, lo2, ne1, ne2, ne3, hp⟩ := t.c
  exact ⟨v, mb, es, clock, (x.old _ lt).trans gt, Nat.lt_of_lt_of_le lt x.next, O.ext x, (x.old _ lm).trans gm, Nat.lt_of_lt_of_le lm x.next, ek, lo1, lo2, ne1, ne2, ne3, fun k hk => ⟨Nat.lt_of_lt_of_le (hp k hk).1 x.next, (hp k hk).2⟩⟩
theorem new_w {h : Heap} {tm : Tm} {Q : R → Prop} (q : ∀ h' tb, Ext h h' → TabR h' h.next tb (fun _ => False) [] → Q (.val (.tup [.ptr (some (tb, 0)), .int .i64 0]) h')) : W E1 (.call (.fn 107 [] []) [.slice none 0 0 0]) tm h Q := by
  refine W.fn (s := fnOf Tryz.f107) rfl rfl rfl rfl ?_
  repeat (first | (with_reducible first | refine W.seq ?_ | refine W.block ?_ | refine W.region ?_ | refine SeqQ.normal ?_) | refine W.box rfl rfl rfl fun h_ X_ n_ g_ L_ => ?_ | refine W.opn (v := .int _ _) rfl rfl rfl ?_ | refine W.opn (v := .ptr _) rfl rfl rfl ?_ | refine W.opn (v := .slice _ _ _ _) rfl rfl rfl ?_ | refine W.opn (v := .agg _) rfl rfl rfl ?_ | refine W.opn rfl rfl rfl ?_ | refine W.nil ?_)
  have g0 : h_.get (h.next + 1) = some (.cells [.slice none 0 0 0, .map (some h.next)] false) := g_
  have n0 : h_.next = h.next + 2 := n_
  have Xh : Ext h h_ := (Ext.new _ _).trans X_
  have gm : h_.get h.next = some (.map [] 0) := (X_.old h.next (Nat.lt_succ_self _)).trans (new_same _ _)
  clear L_ g_ X_ n_
  refine W.loop (σ := Nat) (fun k tm h' => h' = h_ ∧ tm.look 4 = .ptr (some (h.next + 1, 0)) ∧ tm.look 14 = .int .i64 0 ∧ tm.look 15 = .int .i64 0) (fun _ => 0) ?_ (s := 0) ⟨rfl, rfl, rfl, rfl⟩
  rintro k tm h' ⟨rfl, w4, w14, w15⟩
  obtain ⟨T, rfl⟩ : ∃ T : Tm, tm = (((T.set 4 (some (.ptr (some (h.next + 1, 0))))).set 14 (some (.int .i64 0))).set 15 (some (.int .i64 0))) := ⟨tm, (show tm = (((tm.set 4 (some (tm.look 4))).set 14 (some (tm.look 14))).set 15 (some (tm.look 15))) by rfl).trans (by rw [w4, w14, w15])⟩
  clear w4 w14 w15
  repeat (first | (with_reducible first | refine W.seq ?_ | refine W.region ?_ | refine W.exit ?_ | refine W.ret ?_ | refine SeqQ.normal ?_ | refine SeqQ.exit ?_ | refine BlockQ.exit ?_ | refine LoopQ.exit ?_) | refine W.opn rfl op_lss rfl ?_ | refine W.opn (v := .int _ _) rfl rfl rfl ?_ | refine W.opn (v := .ptr _) rfl rfl rfl ?_ | refine W.nil ?_ | refine W.cond (x := false) rfl (fun hc => by cases hc) (fun _ => ?_) | rw [decide_eq_false (by first | assumption | omega)])
  exact q _ _ Xh ⟨_, _, _, _, g0, by omega, OwnR.nil, gm, by omega, rfl, by omega, Nat.le_refl _, by omega, fun e => (by cases e), fun e => (by cases e), fun _ h => h.elim⟩
end
end Go.Proofs.YtmgpjfnlciapkaaGreatDoor

noncomputable section
namespace Go.CM
section
variable {h h' H : Heap} {lo z : Nat} {v : CV} {l : List (List CV)} {E : Env} {tm : Tm} {Q : R → Prop} {all rest : List Oper} {o : Oper} {B : Nat → Prop} {bs : List Bits} {recs : List Rec} {i : Nat} {idx nr : List Nat}
structure DV (B : Nat → Prop) (h : Heap) (idx nr : List Nat) (recs : List Rec) : Prop where
  d : DY B h idx recs
  r : ∀ r ∈ recs, recIdx r ∈ nr ∨ ∃ i fp lo, r = .op i fp false lo lo ∧ (∀ k ∈ fp, B k) ∧ ∀ k ∈ fp, k < h.next
theorem DV.start (hb : ∀ b, B b → b < h.next) : DV B h [] [] [] := ⟨DY.start hb, fun _ h => by cases h⟩
theorem DV.more {h' : Heap} {idx' nr' : List Nat} {r0 : Rec} (dv : DV B h idx nr recs) (d : DY B h' idx' (r0 :: recs)) (hn : h.next ≤ h'.next) (h0 : recIdx r0 ∈ nr' ∨ ∃ i fp lo, r0 = .op i fp false lo lo ∧ (∀ k ∈ fp, B k) ∧ ∀ k ∈ fp, k < h'.next) (hs : ∀ j ∈ nr, j ∈ nr') : DV B h' idx' nr' (r0 :: recs) := ⟨d, fun r hr => by
  rcases List.mem_cons.1 hr with rfl | hr
  · exact h0
  · rcases dv.r r hr with h1 | ⟨i, fp, lo, h1, h2, h3⟩
    · exact .inl (hs _ h1)
    · exact .inr ⟨i, fp, lo, h1, h2, fun k hk => Nat.lt_of_lt_of_le (h3 k hk) hn⟩⟩
theorem DV.pairs {ahead : Bits} {fp : List Nat} {news : List Nat} (hB : ∀ b, B b → b ∉ fp) (hnew : ∀ k ∈ news, h.next ≤ k) (hnr : ∀ j ∈ nr, bit j ahead = true) : ∀ {recs : List Rec}, (∀ r ∈ recs, recIdx r ∈ nr ∨ ∃ i fp lo, r = .op i fp false lo lo ∧ (∀ k ∈ fp, B k) ∧ ∀ k ∈ fp, k < h.next) → okPairs ahead fp true news recs = true
  | [], _ => rfl
  | r :: rs, hr => by
    unfold okPairs
    have ih := DV.pairs (fp := fp) (news := news) hB hnew hnr (recs := rs) fun x hx => hr x (List.mem_cons_of_mem _ hx)
    rcases hr r (by simp) with h1 | ⟨i, fp', lo, rfl, h2, h3⟩
    · rw [hnr _ h1, ih]
      cases okPair fp true news r <;> rfl
    · have : okPair fp true news (.op i fp' false lo lo) = true := by
        rw [okPair_op, all1_each fun k hk => by
          unfold opApart
          rw [within_self]
          show (!mem k fp') = true
          rw [mem_false fun x hx e => hB x (h2 x hx) (by rw [e]; exact hk)]; rfl]
        show all1 news (fun k => !mem k fp') = true
        refine all1_each fun k hk => ?_
        rw [mem_false fun x hx e => by have := h3 x hx; have := hnew k hk; omega]; rfl
      rw [this]
      exact ih
theorem W.ldV {t : TypeId} {x : Operand} {id off k : Nat} {e : List CV} {s : TyS} {v : CV} (dv : DV B h idx nr recs) (hB : B id) (L : LocE h id off e) (hgd : guardOn all tm o = some true) (hop : o.op = .load t x) (hx : cvOf E.globs tm x = .ptr (some (id, off + k))) (hs : E.ty t = some s) (h1 : s.size = 1) (h2 : s.agg = false) (he : e[k]? = some v)
    (w : ∀ recs' h', DV B h' (i :: idx) nr recs' → Same h h' → LocE h' id off e → W E (.draw bs all rest (i + 1) recs') (putTmp tm o.dst v) h' Q) : W E (.draw bs all (o :: rest) i recs) tm h Q := by
  obtain ⟨cs, ro, g1, g2, g3⟩ := L
  have hn := cut_nth g3 he
  have hfp : fpAny E o tm = [id] := by
    unfold fpAny
    rw [hop]
    show idOf (cvOf E.globs tm x) = [id]
    rw [hx]; rfl
  have hwr : wrOf o.op = false := by rw [hop]; rfl
  have hget : (only h [id]).get id = some (.cells cs ro) := by rw [only_get]; simpa using g1
  have ho : opAny E o tm (only h (fpAny E o tm)) = some (v, only h [id]) := by
    rw [hfp]
    unfold opAny
    rw [hop]
    show oLoad E t (cvOf E.globs tm x) (only h [id]) = _
    rw [hx]
    have hp : CM.part cs (off + k) s.size s.agg = some v := by rw [h1, h2]; exact hn
    unfold oLoad CM.load loadB
    simp only [hget, hs, hp, withH]
  have hsame : Same h (back h (only h [id]) ([id] ++ span h.next 0)) := by
    refine ⟨by rw [back_next, only_next], fun k => ?_⟩
    rw [back_get]
    split
    · rename_i hk
      have : k = id := by
        have hk : k ∈ [id] := hk
        simpa using hk
      subst this
      rw [hget, g1]
    · rfl
  obtain ⟨r, ⟨N, e⟩, q⟩ := w (.op i [id] false h.next h.next :: recs) _ (dv.more ((dv.d.cons (Nat.le_refl _) (fun k hk => by rw [List.mem_singleton] at hk; rw [hk]; exact g2) fun b hb => ⟨dv.d.b b hb, fun h => by cases h⟩).same hsame.next) (Nat.le_of_eq hsame.next.symm) (.inr ⟨i, [id], h.next, rfl, fun k hk => by rw [List.mem_singleton] at hk; rw [hk]; exact hB, fun k hk => by rw [List.mem_singleton] at hk; rw [hk, hsame.next]; exact g2⟩) fun j hj => hj) hsame (LocE.ext ⟨cs, ro, g1, g2, g3⟩ hsame.ext)
  refine ⟨r, .step ⟨N, fun m hm => ?_⟩, q⟩
  show (match guardOn all tm o with
      | some true => dOp E (run E m) bs all rest o i recs tm h
      | some false => run E m (.draw bs all rest (i + 1) recs) (putTmp tm o.dst (.tup [])) h
      | none => .stop) = r
  rw [hgd]
  show dOp E (run E m) bs all rest o i recs tm h = r
  rw [dOp_any ho, hfp, hwr]
  have hnx : (only h [id]).next = h.next := only_next _ _
  show (match okPairs ((nth bs i).getD Bits.nil) [id] false (span h.next ((only h [id]).next - h.next)) recs with
    | true => run E m (.draw bs all rest (i + 1) (.op i [id] false h.next (only h [id]).next :: recs)) (putTmp tm o.dst v) (back h (only h [id]) ([id] ++ span h.next ((only h [id]).next - h.next)))
    | false => .stop) = r
  rw [hnx, Nat.sub_self]
  have : okPairs ((nth bs i).getD Bits.nil) [id] false (span h.next 0) recs = true := DY.pairs_read hB dv.d
  rw [this]
  exact e m hm
theorem W.newV {b : Blk} {v : CV} (dv : DV B h idx nr recs) (hgd : guardOn all tm o = some true) (hfp : fpAny E o tm = []) (hwr : wrOf o.op = false) (ho : opAny E o tm (only h []) = some (v, (only h []).new b))
    (w : ∀ recs' h', DV B h' (i :: idx) (i :: nr) recs' → Ext h h' → h'.next = h.next + 1 → h'.get h.next = some b → W E (.draw bs all rest (i + 1) recs') (putTmp tm o.dst v) h' Q) : W E (.draw bs all (o :: rest) i recs) tm h Q := by
  have ho : opAny E o tm (only h (fpAny E o tm)) = some (v, (only h []).new b) := by rw [hfp]; exact ho
  have hb : ∀ k, (back h ((only h []).new b) ([] ++ [h.next])).get k = if k = h.next then some b else h.get k := by
    intro k
    rw [back_get]
    by_cases e : k = h.next
    · subst e
      rw [if_pos (by simp), if_pos rfl]
      exact new_same (only h []) _
    · rw [if_neg (by simpa using e), if_neg e]
  have hnx : (back h ((only h []).new b) ([] ++ [h.next])).next = h.next + 1 := by rw [back_next]; rfl
  have hx : Ext h (back h ((only h []).new b) ([] ++ [h.next])) := by
    refine ⟨by omega, fun k hk => ?_, fun f k hk => ?_⟩
    · rw [hb, if_neg (by omega)]
    · rw [hnx] at hk
      rw [hb, if_neg (by omega)]
      exact f k (by omega)
  obtain ⟨r, ⟨N, e⟩, q⟩ := w (.op i [] false h.next (h.next + 1) :: recs) _ (dv.more (dv.d.cons (by omega) (fun k hk => by cases hk) fun b hb => ⟨dv.d.b b hb, fun h => by cases h⟩) (by omega) (.inl (by simp [recIdx])) fun j hj => List.mem_cons_of_mem _ hj) hx hnx (by rw [hb, if_pos rfl])
  refine ⟨r, .step ⟨N, fun m hm => ?_⟩, q⟩
  show (match guardOn all tm o with
      | some true => dOp E (run E m) bs all rest o i recs tm h
      | some false => run E m (.draw bs all rest (i + 1) recs) (putTmp tm o.dst (.tup [])) h
      | none => .stop) = r
  rw [hgd]
  show dOp E (run E m) bs all rest o i recs tm h = r
  rw [dOp_any ho, hfp, hwr]
  have hnb : Nat.beq (h.next + 1) h.next = false := by
    cases hb : Nat.beq (h.next + 1) h.next with
    | true => have := Nat.eq_of_beq_eq_true hb; omega
    | false => rfl
  have hsp : span h.next (h.next + 1 - h.next) = [h.next] := by
    rw [show h.next + 1 - h.next = 1 by omega]; rfl
  show (match isNil ([] : List Nat) && Nat.beq (h.next + 1) h.next with
    | true => _
    | false => match okPairs ((nth bs i).getD Bits.nil) [] false (span h.next (h.next + 1 - h.next)) recs with
      | true => run E m (.draw bs all rest (i + 1) (.op i [] false h.next (h.next + 1) :: recs)) (putTmp tm o.dst v) (back h ((only h []).new b) ([] ++ span h.next (h.next + 1 - h.next)))
      | false => .stop) = r
  rw [hnb, hsp, DY.pairs_new dv.d]
  exact e m hm
theorem W.apV {c : Call} {t t2 e : TypeId} {ts es t2s : TyS} {s s2 : CV} {l2 : List (List CV)} (dv : DV B h idx nr recs) (X : Ext H h) (so : OwnR h H.next z s l) (s2l : SlG h z s2 l2) (hB : ∀ b, B b → b ∉ idOf s ++ idOf s2) (hid : (nr.all fun j => bit j ((nth bs i).getD Bits.nil)) = true)
    (hgd : guardOn all tm o = some true) (hop : o.op = .call c) (hb : c.callee = .builtin .append) (hty : c.argTypes.toList = [t, t2]) (ha : c.args.toList.map (cvOf E.globs tm) = [s, s2])
    (hts : E.ty t = some ts) (hk : ts.kind = .slice e) (hes : E.ty e = some es) (hz : es.size = z) (hz0 : (Nat.beq es.size 0 || Nat.beq es.bytes 0) = false) (ht2 : E.ty t2 = some t2s) (hk2 : t2s.kind = .slice e) (hm : (l.length + l2.length) * es.bytes ≤ 70368744177664)
    (w : ∀ recs' v' h', DV B h' (i :: idx) (i :: nr) recs' → Ext H h' → (∀ b, B b → h'.get b = h.get b) → h.next ≤ h'.next → OwnR h' H.next z v' (l ++ l2) → (∀ c, c < h.next → idOf s ≠ [c] → idOf v' ≠ [c]) → W E (.draw bs all rest (i + 1) recs') (putTmp tm o.dst v') h' Q) : W E (.draw bs all (o :: rest) i recs) tm h Q := by
  have d := dv.d
  have hfp : fpAny E o tm = idOf s ++ idOf s2 := by
    unfold fpAny
    rw [hop]
    simp only [fpOf, hb]
    rw [show (c.args.toList.map fun x => idOf (cvOf E.globs tm x)) = (c.args.toList.map (cvOf E.globs tm)).map idOf by rw [List.map_map]; rfl, ha]
    simp
  have hwr : wrOf o.op = true := by rw [hop]; simp only [wrOf, hb]
  obtain ⟨fp, hfpe⟩ : ∃ fp, fp = idOf s ++ idOf s2 := ⟨_, rfl⟩
  rw [← hfpe] at hfp hB
  have g0 : ∀ k, k ∈ fp → (only h fp).get k = h.get k := fun k hk => by rw [only_get, if_pos hk]
  have nx : (only h fp).next = h.next := only_next _ _
  have so' : OwnR (only h fp) H.next z s l := so.other (by rw [nx]; exact Nat.le_refl _) fun k _ _ hk => g0 k (by rw [hfpe, hk]; simp)
  have s2' : SlG (only h fp) z s2 l2 := by
    rcases s2l with ⟨rfl, rfl⟩ | ⟨rfl, rfl⟩ | ⟨i, o, c, x, cs, ro, rfl, g2, g3, g4, g5, g6⟩
    · exact .inl ⟨rfl, rfl⟩
    · exact .inr (.inl ⟨rfl, rfl⟩)
    · exact .inr (.inr ⟨i, o, c, x, cs, ro, rfl, by rw [nx]; exact g2, (g0 i (by rw [hfpe]; simp [idOf])).trans g3, g4, g5, g6⟩)
  have hlt : ∀ k, k ∈ fp → k < h.next := fun k hk => by
    rw [hfpe] at hk
    rcases List.mem_append.1 hk with hk | hk
    · rcases so with ⟨rfl, rfl⟩ | ⟨i, y, ro, rfl, h1, h2, _⟩
      · cases hk
      · have : k = i := by simpa [idOf] using hk
        rw [this]; exact h2
    · rcases s2l with ⟨rfl, rfl⟩ | ⟨rfl, rfl⟩ | ⟨i, o, c, x, cs, ro, rfl, g2, g3, g4, g5, g6⟩
      · cases hk
      · cases hk
      · have : k = i := by simpa [idOf] using hk
        rw [this]; exact g2
  obtain ⟨v', hh, k1, k2, k2b, k3, k4, k5, k6, k7⟩ := append_own (by rw [nx]; exact X.next) so' s2' hts hk hes hz hz0 ht2 hk2 hm
  rw [nx] at k2 k2b k3
  have ho : opAny E o tm (only h (fpAny E o tm)) = some (v', hh) := by
    rw [hfp]
    unfold opAny
    rw [hop]
    simp only [hb]
    show builtinV E _ .append c.argTypes.toList (c.args.toList.map (cvOf E.globs tm)) = _
    rw [hty, ha]
    exact k1
  have hbk : ∀ k, k < h.next → k < H.next ∨ idOf s ≠ [k] → (back h hh (fp ++ span h.next (hh.next - h.next))).get k = h.get k := by
    intro k hk hc
    rw [back_get]
    split
    · rename_i hm
      rcases List.mem_append.1 hm with hm | hm
      · rw [k3 k hk hc, g0 k hm]
      · exfalso
        have : hh.next = h.next ∨ hh.next = h.next + 1 := by omega
        rcases this with e | e
        · rw [e, Nat.sub_self] at hm; cases hm
        · rw [e, show h.next + 1 - h.next = 1 by omega] at hm
          have : k = h.next := by
            have hm : k ∈ [h.next + 0] := hm
            simpa using hm
          omega
    · rfl
  have hbn : (back h hh (fp ++ span h.next (hh.next - h.next))).next = hh.next := back_next _ _ _
  have X' : Ext H (back h hh (fp ++ span h.next (hh.next - h.next))) := by
    refine ⟨by rw [hbn]; exact Nat.le_trans X.next k2, fun k hk => (hbk k (Nat.lt_of_lt_of_le hk X.next) (.inl hk)).trans (X.old k hk), fun f k hk => ?_⟩
    rw [hbn] at hk
    rw [back_get]
    have fh := X.fr f
    split
    · rename_i hm
      rcases List.mem_append.1 hm with hm | hm
      · have := hlt k hm; omega
      · exfalso
        have : hh.next = h.next ∨ hh.next = h.next + 1 := by omega
        rcases this with e | e
        · rw [e, Nat.sub_self] at hm; cases hm
        · rw [e, show h.next + 1 - h.next = 1 by omega] at hm
          have : k = h.next := by
            have hm : k ∈ [h.next + 0] := hm
            simpa using hm
          omega
    · exact fh k (by omega)
  have k5' : OwnR (back h hh (fp ++ span h.next (hh.next - h.next))) H.next z v' (l ++ l2) := by
    have gg : ∀ k, k ∈ fp ∨ (h.next ≤ k ∧ k < hh.next) → (back h hh (fp ++ span h.next (hh.next - h.next))).get k = hh.get k := by
      intro k hc
      rw [back_get, if_pos]
      rcases hc with hc | ⟨c1, c2⟩
      · exact List.mem_append_left _ hc
      · refine List.mem_append_right _ ?_
        have : k = h.next := by omega
        rw [show hh.next - h.next = 1 by omega, this]
        show h.next ∈ [h.next + 0]
        simp
    rw [nx] at k7
    have inn : ∀ i, idOf v' = [i] → i < hh.next → i ∈ fp ∨ (h.next ≤ i ∧ i < hh.next) := by
      intro i hi hlt2
      by_cases hl2 : l2 = []
      · left
        rw [hfpe, ← (k6 hl2).1, hi]
        simp
      · right
        have := (k7 hl2).1
        rw [hi] at this
        have : i = h.next := by simpa using this
        omega
    rcases k5 with ⟨e0, rfl⟩ | ⟨i, y, ro, rfl, h1, h2, h3, h4, h5⟩
    · exact .inl ⟨e0, rfl⟩
    · exact .inr ⟨i, y, ro, rfl, h1, by rw [hbn]; exact h2, (gg i (inn i rfl h2)).trans h3, h4, h5⟩
  have hall : okPairs ((nth bs i).getD Bits.nil) fp true (span h.next (hh.next - h.next)) recs = true := DV.pairs hB (fun k hk => by
    have : hh.next = h.next ∨ hh.next = h.next + 1 := by omega
    rcases this with e | e
    · rw [e, Nat.sub_self] at hk; cases hk
    · rw [e, show h.next + 1 - h.next = 1 by omega] at hk
      have hk : k ∈ [h.next + 0] := hk
      have : k = h.next := by simpa using hk
      omega) (fun j hj => List.all_eq_true.1 hid j hj) dv.r
  have kid : ∀ c, c < h.next → idOf s ≠ [c] → idOf v' ≠ [c] := by
    intro c hc hs
    by_cases hl2 : l2 = []
    · rw [(k6 hl2).1]; exact hs
    · have := (k7 hl2).1
      rw [nx] at this
      rw [this]
      intro e
      have : h.next = c := by simpa using e
      omega
  by_cases hno : fp = [] ∧ hh.next = h.next
  · have hl2 : l2 = [] := by
      by_cases hl2 : l2 = []
      · exact hl2
      · have := (k7 hl2).2
        rw [nx] at this
        omega
    have hv := (k6 hl2).1
    obtain ⟨r, ⟨N, e⟩, q⟩ := w recs v' h ⟨⟨fun r hr => ⟨List.mem_cons_of_mem _ (d.r r hr).1, (d.r r hr).2⟩, d.b⟩, fun r hr => (dv.r r hr).imp (List.mem_cons_of_mem _) id⟩ X (fun _ _ => rfl) (Nat.le_refl _) (by rw [hl2, List.append_nil, hv]; exact so) (fun c _ hc => by rw [hv]; exact hc)
    refine ⟨r, .step ⟨N, fun m hm => ?_⟩, q⟩
    show (match guardOn all tm o with
      | some true => dOp E (run E m) bs all rest o i recs tm h
      | some false => run E m (.draw bs all rest (i + 1) recs) (putTmp tm o.dst (.tup [])) h
      | none => .stop) = r
    rw [hgd]
    show dOp E (run E m) bs all rest o i recs tm h = r
    rw [dOp_any ho, hfp, hwr, hno.1]
    show (match isNil ([] : List Nat) && Nat.beq hh.next h.next with
      | true => run E m (.draw bs all rest (i + 1) recs) (putTmp tm o.dst v') h
      | false => _) = r
    rw [hno.2, Nat.beq_refl]
    exact e m hm
  · obtain ⟨r, ⟨N, e⟩, q⟩ := w (.op i fp true h.next hh.next :: recs) v' _ (dv.more (d.cons (by rw [hbn]; exact k2) (fun k hk => Nat.lt_of_lt_of_le (hlt k hk) (by rw [hbn]; exact k2)) fun b hb => ⟨d.b b hb, fun _ => hB b hb⟩) (by rw [hbn]; exact k2) (.inl (by simp [recIdx])) fun j hj => List.mem_cons_of_mem _ hj) X' (fun b hb => hbk b (d.b b hb) (.inr (fun e => hB b hb (by rw [hfpe, e]; simp)))) (by rw [hbn]; exact k2) k5' kid
    refine ⟨r, .step ⟨N, fun m hm => ?_⟩, q⟩
    show (match guardOn all tm o with
      | some true => dOp E (run E m) bs all rest o i recs tm h
      | some false => run E m (.draw bs all rest (i + 1) recs) (putTmp tm o.dst (.tup [])) h
      | none => .stop) = r
    rw [hgd]
    show dOp E (run E m) bs all rest o i recs tm h = r
    rw [dOp_any ho, hfp, hwr]
    have hcond : (isNil fp && Nat.beq hh.next h.next) = false := by
      cases hf : fp with
      | cons a b => rfl
      | nil =>
        cases hb : Nat.beq hh.next h.next with
        | false => rfl
        | true => exact absurd ⟨hf, Nat.eq_of_beq_eq_true hb⟩ hno
    show (match isNil fp && Nat.beq hh.next h.next with
      | true => run E m (.draw bs all rest (i + 1) recs) (putTmp tm o.dst v') h
      | false => match okPairs ((nth bs i).getD Bits.nil) fp true (span h.next (hh.next - h.next)) recs with
        | true => run E m (.draw bs all rest (i + 1) (.op i fp true h.next hh.next :: recs)) (putTmp tm o.dst v') (back h hh (fp ++ span h.next (hh.next - h.next)))
        | false => .stop) = r
    rw [hcond, hall]
    exact e m hm
theorem W.dput {id : Nat} {B1 B2 : Blk} {v : CV} (hri : ∀ r ∈ recs, recIdx r ∈ idx) (hid : (idx.all fun j => bit j ((nth bs i).getD Bits.nil)) = true) (hgd : guardOn all tm o = some true) (hfp : fpAny E o tm = [id]) (hwr : wrOf o.op = true) (hg : h.get id = some B1)
    (ho : ∀ h0 : Heap, h0.get id = some B1 → opAny E o tm h0 = some (v, h0.put id B2))
    (w : ∀ recs' h', (∀ r ∈ recs', recIdx r ∈ i :: idx) → Same (h.put id B2) h' → W E (.draw bs all rest (i + 1) recs') (putTmp tm o.dst v) h' Q) : W E (.draw bs all (o :: rest) i recs) tm h Q := by
  have hget : (only h [id]).get id = some B1 := by rw [only_get]; simpa using hg
  have ho : opAny E o tm (only h (fpAny E o tm)) = some (v, (only h [id]).put id B2) := by
    rw [hfp]
    exact ho _ hget
  have hnx : ((only h [id]).put id B2).next = h.next := only_next _ _
  have hsame : Same (h.put id B2) (back h ((only h [id]).put id B2) ([id] ++ span h.next 0)) := by
    refine ⟨by rw [back_next, hnx]; rfl, fun k => ?_⟩
    rw [back_get, Heap.get_put, Heap.get_put]
    split
    · rename_i hk
      have : k = id := by
        have hk : k ∈ [id] := hk
        simpa using hk
      subst this
      simp
    · rename_i hk
      have : ¬ id = k := by
        intro e; subst e
        exact hk (by show id ∈ [id]; simp)
      rw [if_neg this]
  have hall : ∀ r ∈ recs, bit (recIdx r) ((nth bs i).getD Bits.nil) = true := fun r hm => List.all_eq_true.1 hid _ (hri r hm)
  obtain ⟨r, ⟨N, e⟩, q⟩ := w (.op i [id] true h.next h.next :: recs) _ (fun r hm => by
    rcases List.mem_cons.1 hm with rfl | hm
    · simp [recIdx]
    · exact List.mem_cons_of_mem _ (hri r hm)) hsame
  refine ⟨r, .step ⟨N, fun m hm => ?_⟩, q⟩
  show (match guardOn all tm o with
      | some true => dOp E (run E m) bs all rest o i recs tm h
      | some false => run E m (.draw bs all rest (i + 1) recs) (putTmp tm o.dst (.tup [])) h
      | none => .stop) = r
  rw [hgd]
  show dOp E (run E m) bs all rest o i recs tm h = r
  rw [dOp_any ho, hfp, hwr]
  show (match okPairs ((nth bs i).getD Bits.nil) [id] true (span h.next (((only h [id]).put id B2).next - h.next)) recs with
    | true => run E m (.draw bs all rest (i + 1) (.op i [id] true h.next ((only h [id]).put id B2).next :: recs)) (putTmp tm o.dst v) (back h ((only h [id]).put id B2) ([id] ++ span h.next (((only h [id]).put id B2).next - h.next)))
    | false => .stop) = r
  rw [hnx, Nat.sub_self, okPairs_ahead hall]
  exact e m hm
end
end Go.CM
