/- What is looked at in a world: ways that are open at times, hazards, routes. No condition but that memory beyond the next number is empty. -/
import Derived.Test.YtmgpjfnlciapkaaDoorYP
namespace Go.Proofs.YtmgpjfnlciapkaaDoor
set_option linter.unusedVariables false
set_option linter.unusedSimpArgs false
open Go Go.CM Go.CM.Tt
noncomputable section
set_option maxHeartbeats 8000000

theorem timesChk_w {h : Heap} {tm : Tm} {Q : R → Prop} {cb : Nat} {w : WorldD} {tp : CV} (ck : Chk h cb w tp) (fr : Fresh h) (t : Times) (q : ∀ h', Ext h h' → Q (.val (.int .i64 (t.err w.hz)) h')) : W E1 (.call (.fn 85 [] []) [.ptr (some (cb, 0)), .agg t.enc]) tm h Q := by
  obtain ⟨wb, cs, Lc, Lw, r⟩ := ck.c
  obtain ⟨v1, v2, v3, v4, v5, v6, v7, v8, v9, v10, v11, rfl, s1, s2, s3, s4, s5, s6, s7, s8, s9, s10, s11⟩ := r
  refine W.fn (s := fnOf Tryd.f85) rfl rfl rfl rfl ?_
  repeat (first | (with_reducible first | refine W.seq ?_ | refine W.region ?_ | refine W.draws ?_ | refine SeqQ.normal ?_) | refine W.box rfl rfl rfl fun h_ X_ n_ g_ L_ => ?_ | refine W.opn (v := .int _ _) rfl rfl rfl ?_ | refine W.nil ?_)
  have ds := DX.start (X_.fr fr)
  have X0 := X_
  repeat (first | refine W.dopn (v := .ptr _) rfl rfl rfl rfl ?_ | refine W.dlw (by assumption) (by assumption) (by first | assumption | exact Ext.refl _ | ((repeat (first | assumption | refine Ext.trans ?_ (by assumption))); done)) rfl rfl rfl rfl (by first | rfl | assumption) rfl fun r_ h_ ds_ s_ => ?_ | refine W.dl0 (by assumption) (by assumption) (by first | assumption | exact Ext.refl _ | ((repeat (first | assumption | refine Ext.trans ?_ (by assumption))); done)) rfl rfl rfl rfl rfl rfl rfl fun r_ h_ ds_ s_ => ?_ | refine W.dlk (by assumption) (by assumption) (by first | assumption | exact Ext.refl _ | ((repeat (first | assumption | refine Ext.trans ?_ (by assumption))); done)) rfl rfl rfl rfl rfl rfl rfl fun r_ h_ ds_ s_ => ?_)
  have X1 := X0.trans ds_.x
  refine W.dcallZ ds_ rfl rfl rfl rfl (wins_w t w.hz (X1.fr fr) fun h1 v Y1 sv => DZ.val Y1 fun r1 h1' ds1 s1 => ?_)
  repeat (first | refine W.dopn (v := .int _ _) rfl rfl rfl rfl ?_ | refine W.dopn (v := .tup _) rfl rfl rfl rfl ?_ | refine W.dopn rfl rfl rfl rfl ?_ | refine W.dnil ?_)
  repeat (first | (with_reducible first | refine W.seq ?_ | refine W.region ?_ | refine W.ret ?_ | refine SeqQ.normal ?_) | refine W.opn (v := .int _ _) rfl rfl rfl ?_ | refine W.nil ?_)
  exact q _ ((X1.trans Y1).trans s1.ext)
theorem hazChk_w {h : Heap} {tm : Tm} {Q : R → Prop} {cb : Nat} {w : WorldD} {tp : CV} (ck : Chk h cb w tp) (fr : Fresh h) (i : Nat) (hi : i < w.hazards.length) (q : ∀ h', Ext h h' → Q (.val (.int .i64 (HazW.err w.hz w.hazards[i])) h')) : W E1 (.call (.fn 72 [.ptr (some (cb, 0))] []) [.int .i64 (i : Int)]) tm h Q := by
  have ck0 := ck
  obtain ⟨wb, cs, Lc, Lw, r⟩ := ck.c
  obtain ⟨v1, v2, v3, v4, v5, v6, v7, v8, v9, v10, v11, rfl, s1, s2, s3, s4, s5, s6, s7, s8, s9, s10, s11⟩ := r
  refine W.fn (s := fnOf Tryd.f72) rfl rfl rfl rfl ?_
  unfold HazW.err at q
  repeat (first | (with_reducible first | refine W.seq ?_ | refine W.region ?_ | refine SeqQ.normal ?_) | refine W.opn (v := .int _ _) rfl rfl rfl ?_ | refine W.opn (v := .ptr _) rfl rfl rfl ?_ | refine W.nil ?_ | refine W.ldk (by assumption) (by first | assumption | exact Ext.refl _ | ((repeat (first | assumption | refine Ext.trans ?_ (by assumption))); done)) rfl rfl rfl rfl rfl rfl rfl rfl ?_)
  refine W.ixF (by assumption) (by first | assumption | omega) rfl rfl rfl rfl rfl rfl rfl fun i_ o_ L_ => ?_
  by_cases c1 : w.hazards[i].on < 0
  · rw [if_pos c1] at q
    repeat (first | (with_reducible first | refine W.seq ?_ | refine W.region ?_ | refine W.ret ?_ | refine SeqQ.normal ?_ | refine SeqQ.ret ?_) | refine W.var rfl rfl rfl rfl rfl rfl rfl rfl rfl (by first | rfl | assumption) rfl fun h_ X_ n_ g_ L_ => ?_ | refine W.opn rfl op_lss rfl ?_ | refine W.opn (v := .int _ _) rfl rfl rfl ?_ | refine W.opn (v := .ptr _) rfl rfl rfl ?_ | refine W.nil ?_ | refine W.ldk (by assumption) (by first | assumption | exact Ext.refl _ | ((repeat (first | assumption | refine Ext.trans ?_ (by assumption))); done)) rfl rfl rfl rfl rfl rfl rfl rfl ?_ | refine W.ldw (by assumption) (by first | assumption | exact Ext.refl _ | ((repeat (first | assumption | refine Ext.trans ?_ (by assumption))); done)) rfl rfl rfl rfl (by first | rfl | assumption) rfl rfl ?_ | refine W.cond (x := true) rfl (fun _ => ?_) (fun hc => by cases hc) | rw [decide_eq_true (by first | assumption | omega)])
    exact q _ X_
  rw [if_neg c1] at q
  repeat (first | (with_reducible first | refine W.seq ?_ | refine W.region ?_ | refine W.skip ?_ | refine SeqQ.normal ?_) | refine W.var rfl rfl rfl rfl rfl rfl rfl rfl rfl (by first | rfl | assumption) rfl fun h_ X_ n_ g_ L_ => ?_ | refine W.opn rfl op_lss rfl ?_ | refine W.opn (v := .ptr _) rfl rfl rfl ?_ | refine W.nil ?_ | refine W.ldk (by assumption) (by first | assumption | exact Ext.refl _ | ((repeat (first | assumption | refine Ext.trans ?_ (by assumption))); done)) rfl rfl rfl rfl rfl rfl rfl rfl ?_ | refine W.ldw (by assumption) (by first | assumption | exact Ext.refl _ | ((repeat (first | assumption | refine Ext.trans ?_ (by assumption))); done)) rfl rfl rfl rfl (by first | rfl | assumption) rfl rfl ?_ | refine W.ldp (by assumption) (by first | assumption | exact Ext.refl _ | ((repeat (first | assumption | refine Ext.trans ?_ (by assumption))); done)) rfl rfl rfl rfl rfl rfl rfl ?_ | refine W.cond (x := false) rfl (fun hc => by cases hc) (fun _ => ?_) | rw [decide_eq_false (by first | assumption | omega)])
  refine W.call rfl rfl rfl (timesChk_w (ck0.ext X_) (X_.fr fr) w.hazards[i].times fun h2 X2 => ?_)
  repeat (first | (with_reducible first | refine W.ret ?_ | refine SeqQ.normal ?_ | refine CallQ.val ?_) | refine W.opn (v := .int _ _) rfl rfl rfl ?_ | refine W.nil ?_)
  exact q _ (X_.trans X2)
theorem doorChk_w {h : Heap} {tm : Tm} {Q : R → Prop} {cb : Nat} {w : WorldD} {tp : CV} (ck : Chk h cb w tp) (fr : Fresh h) (i : Nat) (hi : i < w.doors.length) (q : ∀ h', Ext h h' → Q (.val (.int .i64 (DoorW.err w.hz w.doors[i])) h')) : W E1 (.call (.fn 69 [.ptr (some (cb, 0))] []) [.int .i64 (i : Int)]) tm h Q := by
  have ck0 := ck
  obtain ⟨wb, cs, Lc, Lw, r⟩ := ck.c
  obtain ⟨v1, v2, v3, v4, v5, v6, v7, v8, v9, v10, v11, rfl, s1, s2, s3, s4, s5, s6, s7, s8, s9, s10, s11⟩ := r
  refine W.fn (s := fnOf Tryd.f69) rfl rfl rfl rfl ?_
  unfold DoorW.err at q
  repeat (first | (with_reducible first | refine W.seq ?_ | refine W.region ?_ | refine SeqQ.normal ?_) | refine W.opn (v := .int _ _) rfl rfl rfl ?_ | refine W.opn (v := .ptr _) rfl rfl rfl ?_ | refine W.nil ?_ | refine W.ldk (by assumption) (by first | assumption | exact Ext.refl _ | ((repeat (first | assumption | refine Ext.trans ?_ (by assumption))); done)) rfl rfl rfl rfl rfl rfl rfl rfl ?_)
  refine W.ixF (by assumption) (by first | assumption | omega) rfl rfl rfl rfl rfl rfl rfl fun i_ o_ L_ => ?_
  repeat (first | (with_reducible first | refine W.seq ?_ | refine W.region ?_ | refine SeqQ.normal ?_) | refine W.var rfl rfl rfl rfl rfl rfl rfl rfl rfl (by first | rfl | assumption) rfl fun h_ X_ n_ g_ L_ => ?_ | refine W.opn (v := .ptr _) rfl rfl rfl ?_ | refine W.nil ?_ | refine W.ldk (by assumption) (by first | assumption | exact Ext.refl _ | ((repeat (first | assumption | refine Ext.trans ?_ (by assumption))); done)) rfl rfl rfl rfl rfl rfl rfl rfl ?_ | refine W.ldw (by assumption) (by first | assumption | exact Ext.refl _ | ((repeat (first | assumption | refine Ext.trans ?_ (by assumption))); done)) rfl rfl rfl rfl (by first | rfl | assumption) rfl rfl ?_)
  refine W.call rfl rfl rfl (way_w _ _ _ ?_)
  by_cases c1 : wayErr w.doors[i].a w.doors[i].b w.doors[i].len = 0
  · rw [if_pos c1] at q
    repeat (first | (with_reducible first | refine W.seq ?_ | refine W.region ?_ | refine W.skip ?_ | refine SeqQ.normal ?_ | refine CallQ.val ?_) | refine W.opn rfl op_neq rfl ?_ | refine W.opn (v := .int _ _) rfl rfl rfl ?_ | refine W.opn (v := .ptr _) rfl rfl rfl ?_ | refine W.nil ?_ | refine W.ldp (by assumption) (by first | assumption | exact Ext.refl _ | ((repeat (first | assumption | refine Ext.trans ?_ (by assumption))); done)) rfl rfl rfl rfl rfl rfl rfl ?_ | refine W.cond (x := false) rfl (fun hc => by cases hc) (fun _ => ?_) | rw [decide_eq_false (by first | assumption | omega)])
    refine W.call rfl rfl rfl (timesChk_w (ck0.ext X_) (X_.fr fr) w.doors[i].times fun h2 X2 => ?_)
    repeat (first | (with_reducible first | refine W.ret ?_ | refine SeqQ.normal ?_ | refine CallQ.val ?_) | refine W.opn (v := .int _ _) rfl rfl rfl ?_ | refine W.nil ?_)
    exact q _ (X_.trans X2)
  · rw [if_neg c1] at q
    repeat (first | (with_reducible first | refine W.seq ?_ | refine W.region ?_ | refine W.ret ?_ | refine SeqQ.normal ?_ | refine SeqQ.ret ?_ | refine CallQ.val ?_) | refine W.opn rfl op_neq rfl ?_ | refine W.opn (v := .int _ _) rfl rfl rfl ?_ | refine W.nil ?_ | refine W.cond (x := true) rfl (fun _ => ?_) (fun hc => by cases hc) | rw [decide_eq_true (by first | assumption | omega)])
    exact q _ X_
theorem indexI_w {h : Heap} {tm : Tm} {Q : R → Prop} {v : CV} {l : List Int} (s : Int) (sl : Sl h v l) (hm : l.length ≤ 1099511627776)
    (q : ∀ r : Int, (0 ≤ r ↔ s ∈ l) → Q (.val (.int .i64 r) h)) : W E1 (.call (.fn 90 [] []) [v, .int .i64 s]) tm h Q := by
  refine W.fn (s := fnOf Tryd.f90) rfl rfl rfl rfl ?_
  repeat (first | (with_reducible first | refine W.seq ?_ | refine W.block ?_ | refine W.region ?_ | refine SeqQ.normal ?_) | refine W.lnS (by assumption) rfl rfl rfl rfl rfl rfl rfl rfl ?_ | refine W.opn (v := .int _ _) rfl rfl rfl ?_ | refine W.opn rfl rfl rfl ?_ | refine W.nil ?_)
  refine W.loop (σ := Nat) (fun k tm h' => h' = h ∧ tm.look 0 = v ∧ tm.look 1 = .int .i64 s ∧ tm.look 7 = .int .i64 (l.length : Int) ∧ tm.look 8 = .int .i64 (k : Int) ∧ k ≤ l.length ∧ ∀ j, j < k → ∀ a, l[j]? = some a → a ≠ s) (fun k => l.length - k) ?_ (s := 0)
    ⟨rfl, rfl, rfl, rfl, rfl, Nat.zero_le _, fun j hj => by omega⟩
  rintro k tm h' ⟨rfl, w0, w1, w7, w8, hk, hn⟩
  obtain ⟨T, rfl⟩ : ∃ T : Tm, tm = ((((T.set 0 (some (v))).set 1 (some (.int .i64 s))).set 7 (some (.int .i64 (l.length : Int)))).set 8 (some (.int .i64 (k : Int)))) := ⟨tm, (show tm = ((((tm.set 0 (some (tm.look 0))).set 1 (some (tm.look 1))).set 7 (some (tm.look 7))).set 8 (some (tm.look 8))) by rfl).trans (by rw [w0, w1, w7, w8])⟩
  clear w0 w1 w7 w8
  by_cases c1 : k < l.length
  · repeat (first | (with_reducible first | refine W.seq ?_ | refine W.block ?_ | refine W.region ?_ | refine W.skip ?_ | refine SeqQ.normal ?_) | refine W.opn rfl op_lss rfl ?_ | refine W.opn (v := .int _ _) rfl rfl rfl ?_ | refine W.opn rfl rfl rfl ?_ | refine W.nil ?_ | refine W.cond (x := true) rfl (fun _ => ?_) (fun hc => by cases hc) | rw [decide_eq_true (by first | assumption | omega)])
    refine W.ixF (by assumption) (by first | assumption | omega) rfl rfl rfl rfl rfl rfl rfl fun i_ o_ L_ => ?_
    by_cases c2 : s = l[k]
    · repeat (first | (with_reducible first | refine W.seq ?_ | refine W.region ?_ | refine W.ret ?_ | refine SeqQ.normal ?_ | refine SeqQ.ret ?_ | refine BlockQ.ret ?_ | refine LoopQ.ret ?_) | refine W.opn rfl op_eql rfl ?_ | refine W.opn (v := .int _ _) rfl rfl rfl ?_ | refine W.nil ?_ | refine W.ld0 (by assumption) (by first | assumption | exact Ext.refl _ | ((repeat (first | assumption | refine Ext.trans ?_ (by assumption))); done)) rfl rfl rfl rfl rfl rfl rfl rfl ?_ | refine W.cond (x := true) rfl (fun _ => ?_) (fun hc => by cases hc) | rw [decide_eq_true (by first | assumption | omega)])
      exact q _ (Iff.intro (fun _ => by rw [c2]; exact List.getElem_mem c1) (fun _ => by omega))
    · repeat (first | (with_reducible first | refine W.region ?_ | refine W.skip ?_ | refine SeqQ.normal ?_ | refine BlockQ.normal ?_) | refine W.opn rfl op_eql rfl ?_ | refine W.opn rfl (op_add (by omega) (by omega)) rfl ?_ | refine W.opn (v := .int _ _) rfl rfl rfl ?_ | refine W.nil ?_ | refine W.ld0 (by assumption) (by first | assumption | exact Ext.refl _ | ((repeat (first | assumption | refine Ext.trans ?_ (by assumption))); done)) rfl rfl rfl rfl rfl rfl rfl rfl ?_ | refine W.cond (x := false) rfl (fun hc => by cases hc) (fun _ => ?_) | rw [decide_eq_false (by first | assumption | omega)])
      refine ⟨k + 1, lessN c1, rfl, rfl, rfl, rfl, rfl, c1, fun j hj a ha => ?_⟩
      by_cases e : j = k
      · subst e
        rw [List.getElem?_eq_getElem c1] at ha
        cases ha
        exact fun h => c2 h.symm
      · exact hn j (by omega) a ha
  · repeat (first | (with_reducible first | refine W.seq ?_ | refine W.region ?_ | refine W.exit ?_ | refine W.ret ?_ | refine SeqQ.normal ?_ | refine SeqQ.exit ?_ | refine BlockQ.exit ?_ | refine LoopQ.exit ?_) | refine W.opn rfl op_lss rfl ?_ | refine W.opn (v := .int _ _) rfl rfl rfl ?_ | refine W.nil ?_ | refine W.cond (x := false) rfl (fun hc => by cases hc) (fun _ => ?_) | rw [decide_eq_false (by first | assumption | omega)])
    refine q _ (Iff.intro (fun h => by omega) (fun h => ?_))
    obtain ⟨j, hj⟩ := List.getElem?_of_mem h
    exact absurd rfl (hn j (by have := (List.getElem?_eq_some_iff.1 hj).1; omega) s hj)
theorem containsI_w {h : Heap} {tm : Tm} {Q : R → Prop} {v : CV} {l : List Int} (s : Int) (sl : Sl h v l) (hm : l.length ≤ 1099511627776)
    (q : ∀ b : Bool, (b = true ↔ s ∈ l) → Q (.val (.bool b) h)) : W E1 (.call (.fn 86 [] []) [v, .int .i64 s]) tm h Q := by
  refine W.fn (s := fnOf Tryd.f86) rfl rfl rfl rfl ?_
  repeat (first | (with_reducible first | refine W.seq ?_ | refine W.region ?_ | refine SeqQ.normal ?_) | refine W.opn (v := .int _ _) rfl rfl rfl ?_ | refine W.opn (v := .bool _) rfl rfl rfl ?_ | refine W.opn rfl rfl rfl ?_ | refine W.nil ?_)
  refine W.call rfl rfl rfl (indexI_w s sl hm fun r hr => ?_)
  by_cases c : 0 ≤ r
  · repeat (first | (with_reducible first | refine W.ret ?_ | refine SeqQ.normal ?_ | refine CallQ.val ?_) | refine W.opn rfl op_leq rfl ?_ | refine W.opn (v := .bool _) rfl rfl rfl ?_ | refine W.nil ?_ | rw [decide_eq_true (by first | assumption | omega)])
    exact q true (Iff.intro (fun _ => hr.1 c) (fun _ => rfl))
  · repeat (first | (with_reducible first | refine W.ret ?_ | refine SeqQ.normal ?_ | refine CallQ.val ?_) | refine W.opn rfl op_leq rfl ?_ | refine W.opn (v := .bool _) rfl rfl rfl ?_ | refine W.nil ?_ | rw [decide_eq_false (by first | assumption | omega)])
    exact q false (Iff.intro (fun h => by cases h) (fun h => absurd (hr.2 h) c))
end
end Go.Proofs.YtmgpjfnlciapkaaDoor

noncomputable section
namespace Go.CM
set_option linter.unusedVariables false
set_option linter.unusedSimpArgs false
section
variable {E : Env} {tm : Tm} {H H0 h h' : Heap} {Q : R → Prop} {all rest : List Oper} {o : Oper} {bs : List Bits} {recs : List Rec} {i : Nat}
theorem W.dixF {α : Type} [Flat α] {l : List α} {v : CV} {t : TypeId} {x y : Operand} {s : TyS} {et j : Nat} {kk : IntKind} (sl : Sl H v l) (hj : j < l.length) (hgd : guardOn all tm o = some true) (hop : o.op = .indexAddr t x y) (hx : cvOf E.globs tm x = v) (hy : cvOf E.globs tm y = .int kk (j : Int)) (hs : E.ty t = some s) (hk : s.kind = .slice et) (hz : sizeOf? E et = some (Rp.z α))
    (w : ∀ id off, LocE H id off (Flat.enc l[j]) → W E (.draw bs all rest (i + 1) recs) (putTmp tm o.dst (.ptr (some (id, off)))) h Q) : W E (.draw bs all (o :: rest) i recs) tm h Q := by
  obtain ⟨id, off, c, x', e, rfl, L, r⟩ := sl.at hj
  exact W.dix hgd hop hx hy hs hk hz (place_of rfl hj) (w _ _ (by rw [← (Flat.iff H e l[j]).1 r]; exact L))
end
end Go.CM

namespace Go.Proofs.YtmgpjfnlciapkaaDoor
set_option linter.unusedVariables false
set_option linter.unusedSimpArgs false
open Go Go.CM Go.CM.Tt
noncomputable section
set_option maxHeartbeats 8000000

theorem routeChk_w {h : Heap} {tm : Tm} {Q : R → Prop} {cb : Nat} {w : WorldD} {tp : CV} (ck : Chk h cb w tp) (fr : Fresh h) (i : Nat) (hi : i < w.routes.length) (hl : w.routes[i].rides.length + 1 = w.routes[i].stops.length) (hs : w.routes[i].stops.length ≤ 1000) (q : ∀ h', Ext h h' → Q (.val (.int .i64 (RouteW.err w.routes[i])) h')) : W E1 (.call (.fn 70 [.ptr (some (cb, 0))] []) [.int .i64 (i : Int)]) tm h Q := by
  obtain ⟨wb, cs, Lc, Lw, r⟩ := ck.c
  obtain ⟨v1, v2, v3, v4, v5, v6, v7, v8, v9, v10, v11, rfl, s1, s2, s3, s4, s5, s6, s7, s8, s9, s10, s11⟩ := r
  refine W.fn (s := fnOf Tryd.f70) rfl rfl rfl rfl ?_
  obtain ⟨r, hr⟩ : ∃ r, r = w.routes[i] := ⟨_, rfl⟩
  unfold RouteW.err at q
  rw [← hr] at hl hs q
  repeat (first | (with_reducible first | refine W.seq ?_ | refine W.region ?_ | refine SeqQ.normal ?_) | refine W.opn (v := .int _ _) rfl rfl rfl ?_ | refine W.opn (v := .ptr _) rfl rfl rfl ?_ | refine W.nil ?_ | refine W.ldk (by assumption) (by first | assumption | exact Ext.refl _ | ((repeat (first | assumption | refine Ext.trans ?_ (by assumption))); done)) rfl rfl rfl rfl rfl rfl rfl rfl ?_)
  refine W.ixR s9 hi rfl rfl rfl rfl rfl rfl rfl fun i_ o_ e L_ r_ => ?_
  rw [← hr] at r_
  obtain ⟨u1, u2, u3, rfl, t1, t2, t3⟩ := r_
  repeat (first | (with_reducible first | refine W.seq ?_ | refine W.region ?_ | refine SeqQ.normal ?_) | refine W.var rfl rfl rfl rfl rfl rfl rfl rfl rfl (by first | rfl | assumption) rfl fun h_ X_ n_ g_ L_ => ?_ | refine W.opn (v := .ptr _) rfl rfl rfl ?_ | refine W.nil ?_ | refine W.ldk (by assumption) (by first | assumption | exact Ext.refl _ | ((repeat (first | assumption | refine Ext.trans ?_ (by assumption))); done)) rfl rfl rfl rfl rfl rfl rfl rfl ?_ | refine W.ldw (by assumption) (by first | assumption | exact Ext.refl _ | ((repeat (first | assumption | refine Ext.trans ?_ (by assumption))); done)) rfl rfl rfl rfl (by first | rfl | assumption) rfl rfl ?_)
  have X0 := X_
  have L0 : LocE h_ h.next 0 [u1, u2, u3] := L_
  obtain ⟨H, hH⟩ : ∃ H, H = h_ := ⟨_, rfl⟩
  rw [← hH] at X0 L0
  refine W.call rfl rfl rfl (containsI_w (-1) (t1.ext X_) (by omega) fun b hb => ?_)
  cases b
  rotate_left
  · rw [if_pos (hb.1 rfl)] at q
    repeat (first | (with_reducible first | refine W.seq ?_ | refine W.region ?_ | refine W.ret ?_ | refine SeqQ.normal ?_ | refine SeqQ.ret ?_ | refine CallQ.val ?_) | refine W.opn (v := .int _ _) rfl rfl rfl ?_ | refine W.nil ?_ | refine W.cond (x := true) rfl (fun _ => ?_) (fun hc => by cases hc))
    exact q _ X_
  have hno : ¬ (-1 : Int) ∈ r.stops := fun h => by cases hb.2 h
  rw [if_neg hno] at q
  refine W.keep2 5 20 fun T k5 k20 => ?_
  conv at k5 => rhs; whnf
  conv at k20 => rhs; whnf
  rw [show T = ((T.set 5 (some (T.look 5))).set 20 (some (T.look 20))) from rfl, k5, k20]
  clear k5 k20
  rw [← hH]
  clear hH X_ n_ g_ L_
  repeat (first | (with_reducible first | refine W.seq ?_ | refine W.block ?_ | refine W.region ?_ | refine W.skip ?_ | refine SeqQ.normal ?_) | refine W.lnS (by assumption) rfl rfl rfl rfl rfl rfl rfl rfl ?_ | refine W.opn (v := .int _ _) rfl rfl rfl ?_ | refine W.opn (v := .ptr _) rfl rfl rfl ?_ | refine W.nil ?_ | refine W.ldk (by assumption) (by first | assumption | exact Ext.refl _ | ((repeat (first | assumption | refine Ext.trans ?_ (by assumption))); done)) rfl rfl rfl rfl rfl rfl rfl rfl ?_ | refine W.cond (x := false) rfl (fun hc => by cases hc) (fun _ => ?_))
  refine W.loop (σ := Nat) (fun k tm h' => Ext H h' ∧ tm.look 5 = .ptr (some (h.next, 0)) ∧ tm.look 22 = u2 ∧ tm.look 23 = .int .i64 (r.rides.length : Int) ∧ tm.look 24 = .int .i64 (k : Int) ∧ k ≤ r.rides.length ∧ ∀ j, j < k → ¬ r.badAt j) (fun k => r.rides.length - k) ?_ (s := 0)
    ⟨Ext.refl _, rfl, rfl, rfl, rfl, Nat.zero_le _, fun j hj => by omega⟩
  rintro k tm h' ⟨X, w5, w22, w23, w24, hk, hn⟩
  obtain ⟨T, rfl⟩ : ∃ T : Tm, tm = ((((T.set 5 (some (.ptr (some (h.next, 0))))).set 22 (some (u2))).set 23 (some (.int .i64 (r.rides.length : Int)))).set 24 (some (.int .i64 (k : Int)))) := ⟨tm, (show tm = ((((tm.set 5 (some (tm.look 5))).set 22 (some (tm.look 22))).set 23 (some (tm.look 23))).set 24 (some (tm.look 24))) by rfl).trans (by rw [w5, w22, w23, w24])⟩
  clear w5 w22 w23 w24
  by_cases c1 : k < r.rides.length
  rotate_left
  · repeat (first | (with_reducible first | refine W.seq ?_ | refine W.region ?_ | refine W.exit ?_ | refine W.ret ?_ | refine SeqQ.normal ?_ | refine SeqQ.exit ?_ | refine BlockQ.exit ?_ | refine LoopQ.exit ?_) | refine W.opn rfl op_lss rfl ?_ | refine W.opn (v := .int _ _) rfl rfl rfl ?_ | refine W.nil ?_ | refine W.cond (x := false) rfl (fun hc => by cases hc) (fun _ => ?_) | rw [decide_eq_false (by first | assumption | omega)])
    rw [if_neg (fun ⟨j, hj, hb⟩ => hn j (by omega) hb)] at q
    exact q _ (X0.trans X)
  have Xh := X0.trans X
  have g0 : r.rides.getD k 0 = r.rides[k] := by simp [List.getD, List.getElem?_eq_getElem c1]
  have g1 : r.stops.getD k 0 = r.stops[k] := by simp [List.getD, List.getElem?_eq_getElem (show k < r.stops.length by omega)]
  have g2 : r.stops.getD (k + 1) 0 = r.stops[k + 1] := by simp [List.getD, List.getElem?_eq_getElem (show k + 1 < r.stops.length by omega)]
  repeat (first | (with_reducible first | refine W.seq ?_ | refine W.block ?_ | refine W.region ?_ | refine W.skip ?_ | refine SeqQ.normal ?_) | refine W.opn rfl op_lss rfl ?_ | refine W.opn (v := .int _ _) rfl rfl rfl ?_ | refine W.nil ?_ | refine W.cond (x := true) rfl (fun _ => ?_) (fun hc => by cases hc) | rw [decide_eq_true (by first | assumption | omega)])
  refine W.ixF (by assumption) (by first | assumption | omega) rfl rfl rfl rfl rfl rfl rfl fun i_ o_ L_ => ?_
  repeat (first | (with_reducible first | refine W.seq ?_ | refine W.draws ?_ | refine SeqQ.normal ?_) | refine W.opn (v := .int _ _) rfl rfl rfl ?_ | refine W.nil ?_ | refine W.ld0 (by assumption) (by first | assumption | exact Ext.refl _ | ((repeat (first | assumption | refine Ext.trans ?_ (by assumption))); done)) rfl rfl rfl rfl rfl rfl rfl rfl ?_)
  have ds := DX.start (Xh.fr fr)
  by_cases c2 : r.rides[k] < 1
  · repeat (first | refine W.doffn rfl rfl ?_ | refine W.dopn rfl rfl op_lss rfl ?_ | refine W.dopn (v := .int _ _) rfl rfl rfl rfl ?_ | refine W.dopn (v := .bool _) rfl rfl rfl rfl ?_ | refine W.dnil ?_ | rw [decide_eq_true (by first | assumption | omega)])
    repeat (first | (with_reducible first | refine W.seq ?_ | refine W.region ?_ | refine W.ret ?_ | refine SeqQ.normal ?_ | refine SeqQ.ret ?_ | refine BlockQ.ret ?_ | refine LoopQ.ret ?_) | refine W.opn (v := .int _ _) rfl rfl rfl ?_ | refine W.nil ?_ | refine W.cond (x := true) rfl (fun _ => ?_) (fun hc => by cases hc))
    rw [if_pos ⟨k, c1, .inl (by rw [g0]; exact c2)⟩] at q
    exact q _ (Xh.trans ds.x)
  repeat (first | refine W.dopn rfl rfl op_lss rfl ?_ | refine W.dopn (v := .int _ _) rfl rfl rfl rfl ?_ | refine W.dopn (v := .ptr _) rfl rfl rfl rfl ?_ | refine W.dopn (v := .bool _) rfl rfl rfl rfl ?_ | refine W.dl0 (by assumption) (by assumption) (by first | assumption | exact Ext.refl _ | ((repeat (first | assumption | refine Ext.trans ?_ (by assumption))); done)) rfl rfl rfl rfl rfl rfl rfl fun r_ h_ ds_ s_ => ?_ | rw [decide_eq_false (by first | assumption | omega)])
  refine W.dixF (j := k) t1 (by omega) rfl rfl rfl rfl rfl rfl rfl fun i1 o1 L1 => ?_
  repeat (first | refine W.dopn rfl rfl (op_add (by omega) (by omega)) rfl ?_ | refine W.dopn (v := .int _ _) rfl rfl rfl rfl ?_ | refine W.dopn (v := .ptr _) rfl rfl rfl rfl ?_ | refine W.dl0 (by assumption) (by assumption) (by first | assumption | exact Ext.refl _ | ((repeat (first | assumption | refine Ext.trans ?_ (by assumption))); done)) rfl rfl rfl rfl rfl rfl rfl fun r_ h_ ds_ s_ => ?_)
  refine W.dixF (j := k + 1) t1 (by omega) rfl rfl rfl rfl rfl rfl rfl fun i2 o2 L2 => ?_
  repeat (first | refine W.dopn rfl rfl op_eql rfl ?_ | refine W.dopn (v := .bool _) rfl rfl rfl rfl ?_ | refine W.dnil ?_ | refine W.dl0 (by assumption) (by assumption) (by first | assumption | exact Ext.refl _ | ((repeat (first | assumption | refine Ext.trans ?_ (by assumption))); done)) rfl rfl rfl rfl rfl rfl rfl fun r_ h_ ds_ s_ => ?_)
  have X9 := ds_.x
  by_cases c3 : r.stops[k] = r.stops[k + 1]
  · repeat (first | rw [decide_eq_true (by first | assumption | omega)])
    repeat (first | (with_reducible first | refine W.seq ?_ | refine W.region ?_ | refine W.ret ?_ | refine SeqQ.normal ?_ | refine SeqQ.ret ?_ | refine BlockQ.ret ?_ | refine LoopQ.ret ?_) | refine W.opn (v := .int _ _) rfl rfl rfl ?_ | refine W.nil ?_ | refine W.cond (x := true) rfl (fun _ => ?_) (fun hc => by cases hc))
    rw [if_pos ⟨k, c1, .inr (by rw [g1, g2]; exact c3)⟩] at q
    exact q _ (Xh.trans X9)
  · repeat (first | rw [decide_eq_false (by first | assumption | omega)])
    repeat (first | (with_reducible first | refine W.region ?_ | refine W.skip ?_ | refine SeqQ.normal ?_ | refine BlockQ.normal ?_) | refine W.opn rfl (op_add (by omega) (by omega)) rfl ?_ | refine W.opn (v := .int _ _) rfl rfl rfl ?_ | refine W.nil ?_ | refine W.cond (x := false) rfl (fun hc => by cases hc) (fun _ => ?_))
    refine ⟨k + 1, lessN c1, X.trans X9, rfl, rfl, rfl, rfl, c1, fun j hj hb => ?_⟩
    by_cases e : j = k
    · subst e
      rcases hb with hb | hb
      · rw [g0] at hb; exact c2 hb
      · rw [g1, g2] at hb; exact c3 hb
    · exact hn j (by omega) hb
end
end Go.Proofs.YtmgpjfnlciapkaaDoor

namespace Go.Proofs.YtmgpjfnlciapkaaDoor
set_option linter.unusedVariables false
set_option linter.unusedSimpArgs false
open Go Go.CM Go.CM.Tt
noncomputable section
set_option maxHeartbeats 8000000

theorem kinds_w {h : Heap} {tm : Tm} {Q : R → Prop} {p o : Nat} (fr : Fresh h) (q : ∀ h' z, Ext h h' → h.next ≤ z → z < h'.next → LocE h' z 0 [.slice none 0 0 0] → Q (.val (.agg [.ptr (some (z, 0)), .ptr (some (p, o + 0)), .ptr (some (p, o + 1)), .ptr (some (p, o + 2)), .ptr (some (p, o + 3)), .ptr (some (p, o + 4)), .ptr (some (p, o + 5))]) h')) : W E1 (.call (.fn 65 [] []) [.ptr (some (p, o))]) tm h Q := by
  refine W.fn (s := fnOf Tryd.f65) rfl rfl rfl rfl ?_
  repeat (first | (with_reducible first | refine W.seq ?_ | refine W.region ?_ | refine W.draws ?_ | refine SeqQ.normal ?_) | refine W.al rfl rfl rfl fun h_ X_ n_ g_ L_ => ?_ | refine W.nil ?_)
  have ds := DX.start (X_.fr fr)
  refine W.dalZ ds rfl rfl rfl fun r1 h1 ds1 x1 n1 g1 => ?_
  repeat (first | refine W.dopn (v := .ptr _) rfl rfl rfl rfl ?_ | refine W.dopn (v := .agg _) rfl rfl rfl rfl ?_)
  refine W.dst (vs := [.ptr (some (h_.next, 0)), .ptr (some (p, o + 0)), .ptr (some (p, o + 1)), .ptr (some (p, o + 2)), .ptr (some (p, o + 3)), .ptr (some (p, o + 4)), .ptr (some (p, o + 5))]) (cs' := [.ptr (some (h_.next, 0)), .ptr (some (p, o + 0)), .ptr (some (p, o + 1)), .ptr (some (p, o + 2)), .ptr (some (p, o + 3)), .ptr (some (p, o + 4)), .ptr (some (p, o + 5))]) ds1.hri rfl rfl rfl rfl rfl rfl rfl ((ds1.x.old h.next (by omega)).trans g_) rfl fun r4 h4 hr4 s4 => ?_
  have g4 : h4.get h.next = some (.cells [.ptr (some (h_.next, 0)), .ptr (some (p, o + 0)), .ptr (some (p, o + 1)), .ptr (some (p, o + 2)), .ptr (some (p, o + 3)), .ptr (some (p, o + 4)), .ptr (some (p, o + 5))] false) := by rw [s4.get, put_same]
  have Xf : Ext h h4 := ((X_.trans x1).put (Nat.le_refl _) (by omega) _).trans s4.ext
  repeat (first | refine W.dnil ?_)
  repeat (first | (with_reducible first | refine W.ret ?_ | refine SeqQ.normal ?_))
  refine BodyQ.cell1 rfl rfl g4 rfl rfl ?_
  refine q _ h_.next Xf (by omega) (by rw [s4.next]; show h_.next < h1.next; omega) ⟨_, _, (by rw [s4.get, Heap.get_put, if_neg (by omega)]; exact g1), by rw [s4.next]; show h_.next < h1.next; omega, rfl⟩

/-- A table of names, and what it is made of. -/
structure TabR (h : Heap) (lo tb : Nat) (P : Nat → Prop) (names : List Str) : Prop where
  c : ∃ v mb es clock, h.get tb = some (.cells [v, .map (some mb)] false) ∧ tb < h.next ∧ OwnR h lo 1 v (names.map Flat.enc) ∧ h.get mb = some (.map es clock) ∧ mb < h.next ∧ es.map (·.key) = names.map CV.str ∧ lo ≤ tb ∧ lo ≤ mb ∧ tb ≠ mb ∧ idOf v ≠ [tb] ∧ idOf v ≠ [mb] ∧ ∀ k, P k → k < h.next ∧ k ≠ tb ∧ k ≠ mb ∧ idOf v ≠ [k]
/-- What is made later stands apart. -/
theorem TabR.grow {h h' : Heap} {lo tb : Nat} {P : Nat → Prop} {names : List Str} (t : TabR h lo tb P names) (x : Ext h h') : TabR h' lo tb (fun k => P k ∨ (h.next ≤ k ∧ k < h'.next)) names := by
  obtain ⟨v, mb, es, clock, gt, lt, O, gm, lm, ek, lo1, lo2, ne1, ne2, ne3, hp⟩ := t.c
  refine ⟨v, mb, es, clock, (x.old _ lt).trans gt, Nat.lt_of_lt_of_le lt x.next, O.ext x, (x.old _ lm).trans gm, Nat.lt_of_lt_of_le lm x.next, ek, lo1, lo2, ne1, ne2, ne3, fun k hk => ?_⟩
  rcases hk with hk | ⟨h1, h2⟩
  · obtain ⟨g1, g2⟩ := hp k hk
    exact ⟨Nat.lt_of_lt_of_le g1 x.next, g2⟩
  · refine ⟨h2, by omega, by omega, fun e => ?_⟩
    have := (O.idlt e).1
    omega
theorem TabR.ext {h h' : Heap} {lo tb : Nat} {P : Nat → Prop} {names : List Str} (t : TabR h lo tb P names) (x : Ext h h') : TabR h' lo tb P names := by
  obtain ⟨v, mb, es, clock, gt, lt, O, gm, lm, ek, lo1, lo2, ne1, ne2, ne3, hp⟩ := t.c
  exact ⟨v, mb, es, clock, (x.old _ lt).trans gt, Nat.lt_of_lt_of_le lt x.next, O.ext x, (x.old _ lm).trans gm, Nat.lt_of_lt_of_le lm x.next, ek, lo1, lo2, ne1, ne2, ne3, fun k hk => ⟨Nat.lt_of_lt_of_le (hp k hk).1 x.next, (hp k hk).2⟩⟩
theorem new_w {h : Heap} {tm : Tm} {Q : R → Prop} (q : ∀ h' tb, Ext h h' → TabR h' h.next tb (fun _ => False) [] → Q (.val (.tup [.ptr (some (tb, 0)), .int .i64 0]) h')) : W E1 (.call (.fn 64 [] []) [.slice none 0 0 0]) tm h Q := by
  refine W.fn (s := fnOf Tryd.f64) rfl rfl rfl rfl ?_
  repeat (first | (with_reducible first | refine W.seq ?_ | refine W.block ?_ | refine W.region ?_ | refine SeqQ.normal ?_) | refine W.box rfl rfl rfl fun h_ X_ n_ g_ L_ => ?_ | refine W.opn (v := .int _ _) rfl rfl rfl ?_ | refine W.opn (v := .ptr _) rfl rfl rfl ?_ | refine W.opn (v := .slice _ _ _ _) rfl rfl rfl ?_ | refine W.opn (v := .agg _) rfl rfl rfl ?_ | refine W.opn rfl rfl rfl ?_ | refine W.nil ?_)
  have g0 : h_.get (h.next + 1) = some (.cells [.slice none 0 0 0, .map (some h.next)] false) := g_
  have n0 : h_.next = h.next + 2 := n_
  have Xh : Ext h h_ := (Ext.new _ _).trans X_
  have gm : h_.get h.next = some (.map [] 0) := (X_.old h.next (Nat.lt_succ_self _)).trans (new_same _ _)
  clear L_ g_ X_ n_
  refine W.loop (σ := Nat) (fun k tm h' => h' = h_ ∧ tm.look 4 = .ptr (some (h.next + 1, 0)) ∧ tm.look 14 = .int .i64 0 ∧ tm.look 15 = .int .i64 0) (fun _ => 0) ?_ (s := 0) ⟨rfl, rfl, rfl, rfl⟩
  rintro k tm h' ⟨rfl, w4, w14, w15⟩
  obtain ⟨T, rfl⟩ : ∃ T : Tm, tm = (((T.set 4 (some (.ptr (some (h.next + 1, 0))))).set 14 (some (.int .i64 0))).set 15 (some (.int .i64 0))) := ⟨tm, (show tm = (((tm.set 4 (some (tm.look 4))).set 14 (some (tm.look 14))).set 15 (some (tm.look 15))) by rfl).trans (by rw [w4, w14, w15])⟩
  clear w4 w14 w15
  repeat (first | (with_reducible first | refine W.seq ?_ | refine W.region ?_ | refine W.exit ?_ | refine W.ret ?_ | refine SeqQ.normal ?_ | refine SeqQ.exit ?_ | refine BlockQ.exit ?_ | refine LoopQ.exit ?_) | refine W.opn rfl op_lss rfl ?_ | refine W.opn (v := .int _ _) rfl rfl rfl ?_ | refine W.opn (v := .ptr _) rfl rfl rfl ?_ | refine W.nil ?_ | refine W.cond (x := false) rfl (fun hc => by cases hc) (fun _ => ?_) | rw [decide_eq_false (by first | assumption | omega)])
  exact q _ _ Xh ⟨_, _, _, _, g0, by omega, OwnR.nil, gm, by omega, rfl, by omega, Nat.le_refl _, by omega, fun e => (by cases e), fun e => (by cases e), fun _ h => h.elim⟩
end
end Go.Proofs.YtmgpjfnlciapkaaDoor
