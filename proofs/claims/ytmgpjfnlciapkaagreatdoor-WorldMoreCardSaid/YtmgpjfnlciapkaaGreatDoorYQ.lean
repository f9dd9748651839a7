/- The windows of times; ways that are open at times, hazards: what is looked at. No condition but that memory beyond the next number is empty. -/
import Derived.Test.YtmgpjfnlciapkaaGreatDoorYP
import Derived.Test.YtmgpjfnlciapkaaGreatDoorYM
set_option linter.unusedVariables false
set_option linter.unusedSimpArgs false
namespace Go.Proofs.YtmgpjfnlciapkaaGreatDoor
open Go Go.CM Go.CM.Tt
noncomputable section
set_option maxHeartbeats 8000000
def winsT (t : Times) (hz : Int) : List (Int × Int) := if t.err hz = 0 then Wins.join ((List.range (countT t.frm t.evr hz).toNat).map (winAt t)) else []
theorem tick9_w {h : Heap} {tm : Tm} {Q : R → Prop} (t : Int) (q0 : TickOk t → Q (.val (.int .i64 0) h)) (q9 : ¬ TickOk t → Q (.val (.int .i64 9) h)) : W E1 (.call (.fn 80 [] []) [.int .i64 t]) tm h Q := by
  refine W.fn (s := fnOf Tryz.f80) rfl rfl rfl rfl ?_
  repeat (first | (with_reducible first | refine W.seq ?_ | refine W.region ?_ | refine SeqQ.normal ?_) | refine W.opn (v := .int _ _) rfl rfl rfl ?_ | refine W.nil ?_)
  refine W.call rfl rfl rfl (within_w 0 t 1099511627776 ?_)
  by_cases c : 0 ≤ t ∧ t ≤ 1099511627776
  · repeat (first | (with_reducible first | refine W.seq ?_ | refine W.region ?_ | refine W.skip ?_ | refine W.ret ?_ | refine SeqQ.normal ?_ | refine CallQ.val ?_) | refine W.opn (v := .int _ _) rfl rfl rfl ?_ | refine W.opn (v := .bool _) rfl rfl rfl ?_ | refine W.nil ?_ | refine W.cond (x := false) rfl (fun hc => by cases hc) (fun _ => ?_) | rw [decide_eq_true (by first | assumption | omega)])
    exact q0 c
  · repeat (first | (with_reducible first | refine W.seq ?_ | refine W.region ?_ | refine W.ret ?_ | refine SeqQ.normal ?_ | refine SeqQ.ret ?_ | refine CallQ.val ?_) | refine W.opn (v := .int _ _) rfl rfl rfl ?_ | refine W.opn (v := .bool _) rfl rfl rfl ?_ | refine W.nil ?_ | refine W.cond (x := true) rfl (fun _ => ?_) (fun hc => by cases hc) | rw [decide_eq_false (by first | assumption | omega)])
    exact q9 c
theorem every_w {h : Heap} {tm : Tm} {Q : R → Prop} (t : Times) (n : Int) (q : ∀ h' b3 bt, Ext h h' → LocE h' b3 0 [.int .i64 n] → LocE h' bt 0 t.enc → Q (.val (.fn 178 [] [.ptr (some (b3, 0)), .ptr (some (bt, 0))]) h')) : W E1 (.call (.fn 175 [] []) [.agg t.enc, .int .i64 n]) tm h Q := by
  refine W.fn (s := fnOf Tryz.f175) rfl rfl rfl rfl ?_
  repeat (first | (with_reducible first | refine W.seq ?_ | refine W.region ?_ | refine W.ret ?_ | refine SeqQ.normal ?_) | refine W.box rfl rfl rfl fun h_ X_ n_ g_ L_ => ?_ | refine W.opn rfl rfl rfl ?_ | refine W.nil ?_)
  rename_i ha Xa na ga La
  exact q _ _ _ (Xa.trans X_) L_ (La.ext X_)
theorem wins_w {h : Heap} {tm : Tm} {Q : R → Prop} (t : Times) (hz : Int) (fr : Fresh h) (q : ∀ h' v, Ext h h' → Sl h' v (winsT t hz) → Q (.val (.tup [v, .int .i64 (t.err hz)]) h')) : W E1 (.call (.fn 163 [] []) [.agg t.enc, .int .i64 hz]) tm h Q := by
  refine W.fn (s := fnOf Tryz.f163) rfl rfl rfl rfl ?_
  repeat (refine W.seq ?_)
  refine W.region ?_
  refine W.box rfl rfl rfl fun H XH nH gH LH => ?_
  repeat (first | (with_reducible first | refine W.seq ?_ | refine W.region ?_ | refine SeqQ.normal ?_) | refine W.opn (v := .int _ _) rfl rfl rfl ?_ | refine W.opn (v := .slice _ _ _ _) rfl rfl rfl ?_ | refine W.nil ?_ | refine W.ldw (by assumption) (by (repeat (first | assumption | exact Ext.refl _ | refine Ext.trans ?_ (by assumption))); done) rfl rfl rfl rfl (by first | rfl | assumption) rfl rfl ?_)
  refine W.call rfl rfl rfl (timesCheck_w t fun h1 e X1 e1 e2 => ?_)
  by_cases ok : t.ok
  rotate_left
  · have e2 := e2 ok
    subst e2
    have er : t.err hz = 2 := if_pos ok
    repeat (first | (with_reducible first | refine W.seq ?_ | refine W.region ?_ | refine W.ret ?_ | refine SeqQ.normal ?_ | refine SeqQ.ret ?_ | refine CallQ.val ?_) | refine W.opn rfl op_neq rfl ?_ | refine W.opn (v := .int _ _) rfl rfl rfl ?_ | refine W.opn (v := .slice _ _ _ _) rfl rfl rfl ?_ | refine W.nil ?_ | refine W.cond (x := true) rfl (fun _ => ?_) (fun hc => by cases hc) | rw [decide_eq_true (by first | assumption | omega)])
    have := q _ (.slice none 0 0 0) (XH.trans X1) (by unfold winsT; rw [er]; exact Sl.nil)
    rw [er] at this
    exact this
  have e1 := e1 ok
  subst e1
  refine W.keep3 1 2 10 fun T k1 k2 k10 => ?_
  conv at k1 => rhs; whnf
  conv at k2 => rhs; whnf
  conv at k10 => rhs; whnf
  rw [show T = (((T.set 1 (some (T.look 1))).set 2 (some (T.look 2))).set 10 (some (T.look 10))) from rfl, k1, k2, k10]
  clear k1 k2 k10
  repeat (first | (with_reducible first | refine W.seq ?_ | refine W.region ?_ | refine W.skip ?_ | refine SeqQ.normal ?_) | refine W.opn rfl op_neq rfl ?_ | refine W.opn (v := .int _ _) rfl rfl rfl ?_ | refine W.nil ?_ | refine W.cond (x := false) rfl (fun hc => by cases hc) (fun _ => ?_) | rw [decide_eq_false (by first | assumption | omega)])
  refine W.call rfl rfl rfl (tick9_w hz (fun tk => ?_) fun nt => ?_)
  rotate_left
  · have er : t.err hz = 9 := by
      unfold Times.err
      rw [if_neg (fun g => g ok), if_pos nt]
    repeat (first | (with_reducible first | refine W.seq ?_ | refine W.region ?_ | refine W.ret ?_ | refine SeqQ.normal ?_ | refine SeqQ.ret ?_ | refine CallQ.val ?_) | refine W.opn rfl op_neq rfl ?_ | refine W.opn (v := .int _ _) rfl rfl rfl ?_ | refine W.opn (v := .slice _ _ _ _) rfl rfl rfl ?_ | refine W.nil ?_ | refine W.cond (x := true) rfl (fun _ => ?_) (fun hc => by cases hc) | rw [decide_eq_true (by first | assumption | omega)])
    have := q _ (.slice none 0 0 0) (XH.trans X1) (by unfold winsT; rw [er]; exact Sl.nil)
    rw [er] at this
    exact this
  refine W.keep3 1 2 15 fun T k1 k2 k15 => ?_
  conv at k1 => rhs; whnf
  conv at k2 => rhs; whnf
  conv at k15 => rhs; whnf
  rw [show T = (((T.set 1 (some (T.look 1))).set 2 (some (T.look 2))).set 15 (some (T.look 15))) from rfl, k1, k2, k15]
  clear k1 k2 k15
  repeat (first | (with_reducible first | refine W.seq ?_ | refine W.region ?_ | refine W.skip ?_ | refine SeqQ.normal ?_) | refine W.opn rfl op_neq rfl ?_ | refine W.opn (v := .int _ _) rfl rfl rfl ?_ | refine W.opn (v := .ptr _) rfl rfl rfl ?_ | refine W.nil ?_ | refine W.ldk (by assumption) (by (repeat (first | assumption | exact Ext.refl _ | refine Ext.trans ?_ (by assumption))); done) rfl rfl rfl rfl rfl rfl rfl rfl ?_ | refine W.cond (x := false) rfl (fun hc => by cases hc) (fun _ => ?_) | rw [decide_eq_false (by first | assumption | omega)])
  obtain ⟨o1, o2, o3, o4⟩ := ok
  have oe : TickOk t.evr := by
    rcases o4 with g | g
    · rw [g]; exact ⟨by omega, by omega⟩
    · exact ⟨by omega, g.2⟩
  refine W.call rfl rfl rfl (count_w t.frm t.evr hz o1 oe tk ?_)
  obtain ⟨n, hn⟩ : ∃ n, n = countT t.frm t.evr hz := ⟨_, rfl⟩
  rw [← hn]
  have n0 : 0 ≤ n := by
    rw [hn]
    unfold countT
    split
    · omega
    · split
      · omega
      · have := Int.ediv_nonneg (a := hz - t.frm) (b := t.evr) (by omega) oe.1
        omega
  by_cases c1 : 256 < n
  · have er : t.err hz = 3 := by
      unfold Times.err
      rw [if_neg (fun g => g ⟨o1, o2, o3, o4⟩), if_neg (fun g => g tk), if_pos (by rw [← hn]; exact c1)]
    repeat (first | (with_reducible first | refine W.seq ?_ | refine W.region ?_ | refine W.ret ?_ | refine SeqQ.normal ?_ | refine SeqQ.ret ?_ | refine CallQ.val ?_) | refine W.opn rfl op_lss rfl ?_ | refine W.opn (v := .int _ _) rfl rfl rfl ?_ | refine W.opn (v := .slice _ _ _ _) rfl rfl rfl ?_ | refine W.nil ?_ | refine W.cond (x := true) rfl (fun _ => ?_) (fun hc => by cases hc) | rw [decide_eq_true (by first | assumption | omega)])
    have := q _ (.slice none 0 0 0) (XH.trans X1) (by unfold winsT; rw [er]; exact Sl.nil)
    rw [er] at this
    exact this
  have er : t.err hz = 0 := by
    unfold Times.err
    rw [if_neg (fun g => g ⟨o1, o2, o3, o4⟩), if_neg (fun g => g tk), if_neg (by rw [← hn]; exact c1)]
  refine W.keep3 1 2 24 fun T k1 k2 k24 => ?_
  conv at k1 => rhs; whnf
  conv at k2 => rhs; whnf
  conv at k24 => rhs; whnf
  rw [show T = (((T.set 1 (some (T.look 1))).set 2 (some (T.look 2))).set 24 (some (T.look 24))) from rfl, k1, k2, k24]
  clear k1 k2 k24
  repeat (first | (with_reducible first | refine W.seq ?_ | refine W.region ?_ | refine W.skip ?_ | refine SeqQ.normal ?_) | refine W.opn rfl op_lss rfl ?_ | refine W.opn (v := .int _ _) rfl rfl rfl ?_ | refine W.nil ?_ | refine W.ldw (by assumption) (by (repeat (first | assumption | exact Ext.refl _ | refine Ext.trans ?_ (by assumption))); done) rfl rfl rfl rfl (by first | rfl | assumption) rfl rfl ?_ | refine W.cond (x := false) rfl (fun hc => by cases hc) (fun _ => ?_) | rw [decide_eq_false (by first | assumption | omega)])
  refine W.call rfl rfl rfl (every_w t n fun h2 b3 bt X2 L3 Lt => ?_)
  repeat (first | (with_reducible first | refine CallQ.val ?_))
  have Y2 := XH.trans (X1.trans X2)
  obtain ⟨m, hm⟩ : ∃ m : Nat, n = (m : Int) := ⟨n.toNat, by omega⟩
  rw [hm] at L3
  refine W.call rfl rfl rfl (joined_w (Y2.fr fr) L3 Lt (by omega) o1 oe ⟨by omega, o3⟩ fun h3 v X3 s => ?_)
  repeat (first | (with_reducible first | refine W.ret ?_ | refine SeqQ.normal ?_ | refine CallQ.val ?_) | refine W.opn (v := .int _ _) rfl rfl rfl ?_ | refine W.opn rfl rfl rfl ?_ | refine W.nil ?_)
  have := q _ v (Y2.trans X3) (by
    unfold winsT
    rw [if_pos er, ← hn, hm]
    exact s)
  rw [er] at this
  exact this
end
end Go.Proofs.YtmgpjfnlciapkaaGreatDoor

noncomputable section
namespace Go.CM
section
variable {E : Env} {tm : Tm} {H H0 h h' : Heap} {Q : R → Prop} {all rest : List Oper} {o : Oper} {bs : List Bits} {recs : List Rec} {i : Nat} {idx nx : List Nat}
theorem W.dlw {t : TypeId} {x : Operand} {id off : Nat} {e : List CV} {s : TyS} (L : LocE H0 id off e) (ds : DX H h idx nx recs) (X : Ext H0 H) (hgd : guardOn all tm o = some true) (hop : o.op = .load t x) (hx : cvOf E.globs tm x = .ptr (some (id, off))) (hs : E.ty t = some s) (h1 : e.length = s.size) (h2 : s.agg = true)
    (w : ∀ recs' h', DX H h' (i :: idx) nx recs' → Same h h' → W E (.draw bs all rest (i + 1) recs') (putTmp tm o.dst (.agg e)) h' Q) : W E (.draw bs all (o :: rest) i recs) tm h Q := by
  obtain ⟨cs, ro, g1, g2, g3⟩ := L
  refine W.dldZ ds hgd hop hx ((X.old id g2).trans g1) (Nat.lt_of_lt_of_le g2 X.next) hs (v := .agg e) ?_ w
  rw [← h1, h2]
  show (cut cs off e.length).map CV.agg = _
  rw [g3]; rfl
end
end Go.CM

namespace Go.Proofs.YtmgpjfnlciapkaaGreatDoor
open Go Go.CM Go.CM.Tt
noncomputable section
set_option maxHeartbeats 8000000
theorem timesChk_w {h : Heap} {tm : Tm} {Q : R → Prop} {cb : Nat} {w : WorldD} {tp : CV} (ck : Chk h cb w tp) (fr : Fresh h) (t : Times) (q : ∀ h', Ext h h' → Q (.val (.int .i64 (t.err w.hz)) h')) : W E1 (.call (.fn 150 [] []) [.ptr (some (cb, 0)), .agg t.enc]) tm h Q := by
  obtain ⟨wb, cs, Lc, Lw, r⟩ := ck.c
  obtain ⟨v1, v2, v3, v4, v5, v6, v7, v8, v9, v10, v11, rfl, s1, s2, s3, s4, s5, s6, s7, s8, s9, s10, s11⟩ := r
  refine W.fn (s := fnOf Tryz.f150) rfl rfl rfl rfl ?_
  repeat (first | (with_reducible first | refine W.seq ?_ | refine W.region ?_ | refine W.draws ?_ | refine SeqQ.normal ?_) | refine W.box rfl rfl rfl fun h_ X_ n_ g_ L_ => ?_ | refine W.opn (v := .int _ _) rfl rfl rfl ?_ | refine W.nil ?_)
  have ds := DX.start (X_.fr fr)
  have X0 := X_
  repeat (first | refine W.dopn (v := .ptr _) rfl rfl rfl rfl ?_ | refine W.dlw (by assumption) (by assumption) (by (repeat (first | assumption | exact Ext.refl _ | refine Ext.trans ?_ (by assumption))); done) rfl rfl rfl rfl (by first | rfl | assumption) rfl fun r_ h_ ds_ s_ => ?_ | refine W.dl0 (by assumption) (by assumption) (by (repeat (first | assumption | exact Ext.refl _ | refine Ext.trans ?_ (by assumption))); done) rfl rfl rfl rfl rfl rfl rfl fun r_ h_ ds_ s_ => ?_ | refine W.dlk (by assumption) (by assumption) (by (repeat (first | assumption | exact Ext.refl _ | refine Ext.trans ?_ (by assumption))); done) rfl rfl rfl rfl rfl rfl rfl fun r_ h_ ds_ s_ => ?_)
  have X1 := X0.trans ds_.x
  refine W.dcallZ ds_ rfl rfl rfl rfl (wins_w t w.hz (X1.fr fr) fun h1 v Y1 sv => DZ.val Y1 fun r1 h1' ds1 s1 => ?_)
  repeat (first | refine W.dopn (v := .int _ _) rfl rfl rfl rfl ?_ | refine W.dopn (v := .tup _) rfl rfl rfl rfl ?_ | refine W.dopn rfl rfl rfl rfl ?_ | refine W.dnil ?_)
  repeat (first | (with_reducible first | refine W.seq ?_ | refine W.region ?_ | refine W.ret ?_ | refine SeqQ.normal ?_) | refine W.opn (v := .int _ _) rfl rfl rfl ?_ | refine W.nil ?_)
  exact q _ ((X1.trans Y1).trans s1.ext)
theorem hazChk_w {h : Heap} {tm : Tm} {Q : R → Prop} {cb : Nat} {w : WorldD} {tp : CV} (ck : Chk h cb w tp) (fr : Fresh h) (i : Nat) (hi : i < w.hazards.length) (q : ∀ h', Ext h h' → Q (.val (.int .i64 (HazW.err w.hz w.hazards[i])) h')) : W E1 (.call (.fn 114 [.ptr (some (cb, 0))] []) [.int .i64 (i : Int)]) tm h Q := by
  have ck0 := ck
  obtain ⟨wb, cs, Lc, Lw, r⟩ := ck.c
  obtain ⟨v1, v2, v3, v4, v5, v6, v7, v8, v9, v10, v11, rfl, s1, s2, s3, s4, s5, s6, s7, s8, s9, s10, s11⟩ := r
  refine W.fn (s := fnOf Tryz.f114) rfl rfl rfl rfl ?_
  unfold HazW.err at q
  repeat (first | (with_reducible first | refine W.seq ?_ | refine W.region ?_ | refine SeqQ.normal ?_) | refine W.opn (v := .int _ _) rfl rfl rfl ?_ | refine W.opn (v := .ptr _) rfl rfl rfl ?_ | refine W.nil ?_ | refine W.ldk (by assumption) (by (repeat (first | assumption | exact Ext.refl _ | refine Ext.trans ?_ (by assumption))); done) rfl rfl rfl rfl rfl rfl rfl rfl ?_)
  refine W.ixF (by assumption) (by first | assumption | omega) rfl rfl rfl rfl rfl rfl rfl fun i_ o_ L_ => ?_
  by_cases c1 : w.hazards[i].on < 0
  · rw [if_pos c1] at q
    repeat (first | (with_reducible first | refine W.seq ?_ | refine W.region ?_ | refine W.ret ?_ | refine SeqQ.normal ?_ | refine SeqQ.ret ?_) | refine W.var rfl rfl rfl rfl rfl rfl rfl rfl rfl (by first | rfl | assumption) rfl fun h_ X_ n_ g_ L_ => ?_ | refine W.opn rfl op_lss rfl ?_ | refine W.opn (v := .int _ _) rfl rfl rfl ?_ | refine W.opn (v := .ptr _) rfl rfl rfl ?_ | refine W.nil ?_ | refine W.ldk (by assumption) (by (repeat (first | assumption | exact Ext.refl _ | refine Ext.trans ?_ (by assumption))); done) rfl rfl rfl rfl rfl rfl rfl rfl ?_ | refine W.ldw (by assumption) (by (repeat (first | assumption | exact Ext.refl _ | refine Ext.trans ?_ (by assumption))); done) rfl rfl rfl rfl (by first | rfl | assumption) rfl rfl ?_ | refine W.cond (x := true) rfl (fun _ => ?_) (fun hc => by cases hc) | rw [decide_eq_true (by first | assumption | omega)])
    exact q _ X_
  rw [if_neg c1] at q
  repeat (first | (with_reducible first | refine W.seq ?_ | refine W.region ?_ | refine W.skip ?_ | refine SeqQ.normal ?_) | refine W.var rfl rfl rfl rfl rfl rfl rfl rfl rfl (by first | rfl | assumption) rfl fun h_ X_ n_ g_ L_ => ?_ | refine W.opn rfl op_lss rfl ?_ | refine W.opn (v := .ptr _) rfl rfl rfl ?_ | refine W.nil ?_ | refine W.ldk (by assumption) (by (repeat (first | assumption | exact Ext.refl _ | refine Ext.trans ?_ (by assumption))); done) rfl rfl rfl rfl rfl rfl rfl rfl ?_ | refine W.ldw (by assumption) (by (repeat (first | assumption | exact Ext.refl _ | refine Ext.trans ?_ (by assumption))); done) rfl rfl rfl rfl (by first | rfl | assumption) rfl rfl ?_ | refine W.ldp (by assumption) (by (repeat (first | assumption | exact Ext.refl _ | refine Ext.trans ?_ (by assumption))); done) rfl rfl rfl rfl rfl rfl rfl ?_ | refine W.cond (x := false) rfl (fun hc => by cases hc) (fun _ => ?_) | rw [decide_eq_false (by first | assumption | omega)])
  refine W.call rfl rfl rfl (timesChk_w (ck0.ext X_) (X_.fr fr) w.hazards[i].times fun h2 X2 => ?_)
  repeat (first | (with_reducible first | refine W.ret ?_ | refine SeqQ.normal ?_ | refine CallQ.val ?_) | refine W.opn (v := .int _ _) rfl rfl rfl ?_ | refine W.nil ?_)
  exact q _ (X_.trans X2)
theorem doorChk_w {h : Heap} {tm : Tm} {Q : R → Prop} {cb : Nat} {w : WorldD} {tp : CV} (ck : Chk h cb w tp) (fr : Fresh h) (i : Nat) (hi : i < w.doors.length) (q : ∀ h', Ext h h' → Q (.val (.int .i64 (DoorW.err w.hz w.doors[i])) h')) : W E1 (.call (.fn 111 [.ptr (some (cb, 0))] []) [.int .i64 (i : Int)]) tm h Q := by
  have ck0 := ck
  obtain ⟨wb, cs, Lc, Lw, r⟩ := ck.c
  obtain ⟨v1, v2, v3, v4, v5, v6, v7, v8, v9, v10, v11, rfl, s1, s2, s3, s4, s5, s6, s7, s8, s9, s10, s11⟩ := r
  refine W.fn (s := fnOf Tryz.f111) rfl rfl rfl rfl ?_
  unfold DoorW.err at q
  repeat (first | (with_reducible first | refine W.seq ?_ | refine W.region ?_ | refine SeqQ.normal ?_) | refine W.opn (v := .int _ _) rfl rfl rfl ?_ | refine W.opn (v := .ptr _) rfl rfl rfl ?_ | refine W.nil ?_ | refine W.ldk (by assumption) (by (repeat (first | assumption | exact Ext.refl _ | refine Ext.trans ?_ (by assumption))); done) rfl rfl rfl rfl rfl rfl rfl rfl ?_)
  refine W.ixF (by assumption) (by first | assumption | omega) rfl rfl rfl rfl rfl rfl rfl fun i_ o_ L_ => ?_
  repeat (first | (with_reducible first | refine W.seq ?_ | refine W.region ?_ | refine SeqQ.normal ?_) | refine W.var rfl rfl rfl rfl rfl rfl rfl rfl rfl (by first | rfl | assumption) rfl fun h_ X_ n_ g_ L_ => ?_ | refine W.opn (v := .ptr _) rfl rfl rfl ?_ | refine W.nil ?_ | refine W.ldk (by assumption) (by (repeat (first | assumption | exact Ext.refl _ | refine Ext.trans ?_ (by assumption))); done) rfl rfl rfl rfl rfl rfl rfl rfl ?_ | refine W.ldw (by assumption) (by (repeat (first | assumption | exact Ext.refl _ | refine Ext.trans ?_ (by assumption))); done) rfl rfl rfl rfl (by first | rfl | assumption) rfl rfl ?_)
  refine W.call rfl rfl rfl (way_w _ _ _ ?_)
  by_cases c1 : wayErr w.doors[i].a w.doors[i].b w.doors[i].len = 0
  · rw [if_pos c1] at q
    repeat (first | (with_reducible first | refine W.seq ?_ | refine W.region ?_ | refine W.skip ?_ | refine SeqQ.normal ?_ | refine CallQ.val ?_) | refine W.opn rfl op_neq rfl ?_ | refine W.opn (v := .int _ _) rfl rfl rfl ?_ | refine W.opn (v := .ptr _) rfl rfl rfl ?_ | refine W.nil ?_ | refine W.ldp (by assumption) (by (repeat (first | assumption | exact Ext.refl _ | refine Ext.trans ?_ (by assumption))); done) rfl rfl rfl rfl rfl rfl rfl ?_ | refine W.cond (x := false) rfl (fun hc => by cases hc) (fun _ => ?_) | rw [decide_eq_false (by first | assumption | omega)])
    refine W.call rfl rfl rfl (timesChk_w (ck0.ext X_) (X_.fr fr) w.doors[i].times fun h2 X2 => ?_)
    repeat (first | (with_reducible first | refine W.ret ?_ | refine SeqQ.normal ?_ | refine CallQ.val ?_) | refine W.opn (v := .int _ _) rfl rfl rfl ?_ | refine W.nil ?_)
    exact q _ (X_.trans X2)
  · rw [if_neg c1] at q
    repeat (first | (with_reducible first | refine W.seq ?_ | refine W.region ?_ | refine W.ret ?_ | refine SeqQ.normal ?_ | refine SeqQ.ret ?_ | refine CallQ.val ?_) | refine W.opn rfl op_neq rfl ?_ | refine W.opn (v := .int _ _) rfl rfl rfl ?_ | refine W.nil ?_ | refine W.cond (x := true) rfl (fun _ => ?_) (fun hc => by cases hc) | rw [decide_eq_true (by first | assumption | omega)])
    exact q _ X_
theorem indexI_w {h : Heap} {tm : Tm} {Q : R → Prop} {v : CV} {l : List Int} (s : Int) (sl : Sl h v l) (hm : l.length ≤ 1099511627776)
    (q : ∀ r : Int, (0 ≤ r ↔ s ∈ l) → Q (.val (.int .i64 r) h)) : W E1 (.call (.fn 164 [] []) [v, .int .i64 s]) tm h Q := by
  refine W.fn (s := fnOf Tryz.f164) rfl rfl rfl rfl ?_
  repeat (first | (with_reducible first | refine W.seq ?_ | refine W.block ?_ | refine W.region ?_ | refine SeqQ.normal ?_) | refine W.lnS (by assumption) rfl rfl rfl rfl rfl rfl rfl rfl ?_ | refine W.opn (v := .int _ _) rfl rfl rfl ?_ | refine W.opn rfl rfl rfl ?_ | refine W.nil ?_)
  refine W.loop (σ := Nat) (fun k tm h' => h' = h ∧ tm.look 0 = v ∧ tm.look 1 = .int .i64 s ∧ tm.look 7 = .int .i64 (l.length : Int) ∧ tm.look 8 = .int .i64 (k : Int) ∧ k ≤ l.length ∧ ∀ j, j < k → ∀ a, l[j]? = some a → a ≠ s) (fun k => l.length - k) ?_ (s := 0)
    ⟨rfl, rfl, rfl, rfl, rfl, Nat.zero_le _, fun j hj => by omega⟩
  rintro k tm h' ⟨rfl, w0, w1, w7, w8, hk, hn⟩
  obtain ⟨T, rfl⟩ : ∃ T : Tm, tm = ((((T.set 0 (some (v))).set 1 (some (.int .i64 s))).set 7 (some (.int .i64 (l.length : Int)))).set 8 (some (.int .i64 (k : Int)))) := ⟨tm, (show tm = ((((tm.set 0 (some (tm.look 0))).set 1 (some (tm.look 1))).set 7 (some (tm.look 7))).set 8 (some (tm.look 8))) by rfl).trans (by rw [w0, w1, w7, w8])⟩
  clear w0 w1 w7 w8
  by_cases c1 : k < l.length
  · repeat (first | (with_reducible first | refine W.seq ?_ | refine W.block ?_ | refine W.region ?_ | refine W.skip ?_ | refine SeqQ.normal ?_) | refine W.opn rfl op_lss rfl ?_ | refine W.opn (v := .int _ _) rfl rfl rfl ?_ | refine W.opn rfl rfl rfl ?_ | refine W.nil ?_ | refine W.cond (x := true) rfl (fun _ => ?_) (fun hc => by cases hc) | rw [decide_eq_true (by first | assumption | omega)])
    refine W.ixF (by assumption) (by first | assumption | omega) rfl rfl rfl rfl rfl rfl rfl fun i_ o_ L_ => ?_
    by_cases c2 : s = l[k]
    · repeat (first | (with_reducible first | refine W.seq ?_ | refine W.region ?_ | refine W.ret ?_ | refine SeqQ.normal ?_ | refine SeqQ.ret ?_ | refine BlockQ.ret ?_ | refine LoopQ.ret ?_) | refine W.opn rfl op_eql rfl ?_ | refine W.opn (v := .int _ _) rfl rfl rfl ?_ | refine W.nil ?_ | refine W.ld0 (by assumption) (by (repeat (first | assumption | exact Ext.refl _ | refine Ext.trans ?_ (by assumption))); done) rfl rfl rfl rfl rfl rfl rfl rfl ?_ | refine W.cond (x := true) rfl (fun _ => ?_) (fun hc => by cases hc) | rw [decide_eq_true (by first | assumption | omega)])
      exact q _ (Iff.intro (fun _ => by rw [c2]; exact List.getElem_mem c1) (fun _ => by omega))
    · repeat (first | (with_reducible first | refine W.region ?_ | refine W.skip ?_ | refine SeqQ.normal ?_ | refine BlockQ.normal ?_) | refine W.opn rfl op_eql rfl ?_ | refine W.opn rfl (op_add (by omega) (by omega)) rfl ?_ | refine W.opn (v := .int _ _) rfl rfl rfl ?_ | refine W.nil ?_ | refine W.ld0 (by assumption) (by (repeat (first | assumption | exact Ext.refl _ | refine Ext.trans ?_ (by assumption))); done) rfl rfl rfl rfl rfl rfl rfl rfl ?_ | refine W.cond (x := false) rfl (fun hc => by cases hc) (fun _ => ?_) | rw [decide_eq_false (by first | assumption | omega)])
      refine ⟨k + 1, lessN c1, rfl, rfl, rfl, rfl, rfl, c1, fun j hj a ha => ?_⟩
      by_cases e : j = k
      · subst e
        rw [List.getElem?_eq_getElem c1] at ha
        cases ha
        exact fun h => c2 h.symm
      · exact hn j (by omega) a ha
  · repeat (first | (with_reducible first | refine W.seq ?_ | refine W.region ?_ | refine W.exit ?_ | refine W.ret ?_ | refine SeqQ.normal ?_ | refine SeqQ.exit ?_ | refine BlockQ.exit ?_ | refine LoopQ.exit ?_) | refine W.opn rfl op_lss rfl ?_ | refine W.opn (v := .int _ _) rfl rfl rfl ?_ | refine W.nil ?_ | refine W.cond (x := false) rfl (fun hc => by cases hc) (fun _ => ?_) | rw [decide_eq_false (by first | assumption | omega)])
    refine q _ (Iff.intro (fun h => by omega) (fun h => ?_))
    obtain ⟨j, hj⟩ := List.getElem?_of_mem h
    exact absurd rfl (hn j (by have := (List.getElem?_eq_some_iff.1 hj).1; omega) s hj)
theorem containsI_w {h : Heap} {tm : Tm} {Q : R → Prop} {v : CV} {l : List Int} (s : Int) (sl : Sl h v l) (hm : l.length ≤ 1099511627776)
    (q : ∀ b : Bool, (b = true ↔ s ∈ l) → Q (.val (.bool b) h)) : W E1 (.call (.fn 151 [] []) [v, .int .i64 s]) tm h Q := by
  refine W.fn (s := fnOf Tryz.f151) rfl rfl rfl rfl ?_
  repeat (first | (with_reducible first | refine W.seq ?_ | refine W.region ?_ | refine SeqQ.normal ?_) | refine W.opn (v := .int _ _) rfl rfl rfl ?_ | refine W.opn (v := .bool _) rfl rfl rfl ?_ | refine W.opn rfl rfl rfl ?_ | refine W.nil ?_)
  refine W.call rfl rfl rfl (indexI_w s sl hm fun r hr => ?_)
  by_cases c : 0 ≤ r
  · repeat (first | (with_reducible first | refine W.ret ?_ | refine SeqQ.normal ?_ | refine CallQ.val ?_) | refine W.opn rfl op_leq rfl ?_ | refine W.opn (v := .bool _) rfl rfl rfl ?_ | refine W.nil ?_ | rw [decide_eq_true (by first | assumption | omega)])
    exact q true (Iff.intro (fun _ => hr.1 c) (fun _ => rfl))
  · repeat (first | (with_reducible first | refine W.ret ?_ | refine SeqQ.normal ?_ | refine CallQ.val ?_) | refine W.opn rfl op_leq rfl ?_ | refine W.opn (v := .bool _) rfl rfl rfl ?_ | refine W.nil ?_ | rw [decide_eq_false (by first | assumption | omega)])
    exact q false (Iff.intro (fun h => by cases h) (fun h => absurd (hr.2 h) c))
end
end Go.Proofs.YtmgpjfnlciapkaaGreatDoor
