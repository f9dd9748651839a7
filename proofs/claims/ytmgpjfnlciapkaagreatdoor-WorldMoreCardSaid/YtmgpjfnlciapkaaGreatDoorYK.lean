/- Routes with numbers in the place of names. No condition but that memory beyond the next number is empty. -/
import Derived.Test.YtmgpjfnlciapkaaGreatDoorXU
set_option linter.unusedVariables false
set_option linter.unusedSimpArgs false
namespace Go.Proofs.YtmgpjfnlciapkaaGreatDoor
open Go Go.CM Go.CM.Tt
noncomputable section
set_option maxHeartbeats 8000000
def OwnRC (h : Heap) (lo : Nat) (e : List CV) (d : RouteW) : Prop := ∃ u1 u2 u3, e = [u1, u2, u3] ∧ OwnR h lo 1 u1 (d.stops.map Flat.enc) ∧ OwnR h lo 1 u2 (d.rides.map Flat.enc) ∧ OwnR h lo 1 u3 (d.stays.map Flat.enc)
theorem OwnRC.ext {h h' : Heap} {lo : Nat} {e : List CV} {d : RouteW} (o : OwnRC h lo e d) (x : Ext h h') : OwnRC h' lo e d := by
  obtain ⟨u1, u2, u3, rfl, o1, o2, o3⟩ := o
  exact ⟨u1, u2, u3, rfl, o1.ext x, o2.ext x, o3.ext x⟩
theorem OwnRC.low {h : Heap} {lo lo' : Nat} {e : List CV} {d : RouteW} (o : OwnRC h lo e d) (hl : lo' ≤ lo) : OwnRC h lo' e d := by
  obtain ⟨u1, u2, u3, rfl, o1, o2, o3⟩ := o
  exact ⟨u1, u2, u3, rfl, o1.low hl, o2.low hl, o3.low hl⟩
theorem OwnRC.other {h h' : Heap} {lo : Nat} {e : List CV} {d : RouteW} (o : OwnRC h lo e d) (hn : h.next ≤ h'.next) (hk : ∀ c, c ∈ e → ∀ k, lo ≤ k → k < h.next → idOf c = [k] → h'.get k = h.get k) : OwnRC h' lo e d := by
  obtain ⟨u1, u2, u3, rfl, o1, o2, o3⟩ := o
  exact ⟨u1, u2, u3, rfl, o1.other hn (hk u1 (by simp)), o2.other hn (hk u2 (by simp)), o3.other hn (hk u3 (by simp))⟩
theorem OwnRC.len {h : Heap} {lo : Nat} {e : List CV} {d : RouteW} (o : OwnRC h lo e d) : e.length = 3 := by
  obtain ⟨u1, u2, u3, rfl, _⟩ := o
  rfl
theorem OwnRC.idlt {h : Heap} {lo : Nat} {e : List CV} {d : RouteW} (o : OwnRC h lo e d) : ∀ c, c ∈ e → ∀ k, idOf c = [k] → k < h.next ∧ lo ≤ k := by
  obtain ⟨u1, u2, u3, rfl, o1, o2, o3⟩ := o
  intro c hc k hk
  simp only [List.mem_cons, List.not_mem_nil, or_false] at hc
  rcases hc with rfl | rfl | rfl
  · exact o1.idlt hk
  · exact o2.idlt hk
  · exact o3.idlt hk
theorem OwnRC.rp {h : Heap} {lo : Nat} {e : List CV} {d : RouteW} (o : OwnRC h lo e d) : Rp.R h e d := by
  obtain ⟨u1, u2, u3, rfl, o1, o2, o3⟩ := o
  exact ⟨u1, u2, u3, rfl, o1.toSl, o2.toSl, o3.toSl⟩
def OwnRoutes (h : Heap) (lo : Nat) (v : CV) (l : List RouteW) : Prop := ∃ css, OwnR h lo 3 v css ∧ css.length = l.length ∧ ∀ (j : Nat) (e : List CV) (d : RouteW), css[j]? = some e → l[j]? = some d → OwnRC h lo e d
theorem OwnRoutes.ext {h h' : Heap} {lo : Nat} {v : CV} {l : List RouteW} (o : OwnRoutes h lo v l) (x : Ext h h') : OwnRoutes h' lo v l := by
  obtain ⟨css, h1, h2, h3⟩ := o
  exact ⟨css, h1.ext x, h2, fun j e d he hd => (h3 j e d he hd).ext x⟩
theorem OwnRoutes.low {h : Heap} {lo lo' : Nat} {v : CV} {l : List RouteW} (o : OwnRoutes h lo v l) (hl : lo' ≤ lo) : OwnRoutes h lo' v l := by
  obtain ⟨css, h1, h2, h3⟩ := o
  exact ⟨css, h1.low hl, h2, fun j e d he hd => (h3 j e d he hd).low hl⟩
theorem OwnRoutes.other {h h' : Heap} {lo : Nat} {v : CV} {l : List RouteW} (o : OwnRoutes h lo v l) (hn : h.next ≤ h'.next) (hk : ∀ k, lo ≤ k → k < h.next → h'.get k = h.get k) : OwnRoutes h' lo v l := by
  obtain ⟨css, h1, h2, h3⟩ := o
  exact ⟨css, h1.other hn fun k a b _ => hk k a b, h2, fun j e d he hd => (h3 j e d he hd).other hn fun _ _ k a b _ => hk k a b⟩
theorem OwnRoutes.toSl {h : Heap} {lo : Nat} {v : CV} {l : List RouteW} (o : OwnRoutes h lo v l) : Sl h v l := by
  obtain ⟨css, h1, h2, h3⟩ := o
  exact ⟨css, h1.sl, h2, fun j e d he hd => (h3 j e d he hd).rp⟩
theorem num9_w {H h : Heap} {tm : Tm} {Q : R → Prop} {b b5 : Nat} {c0 v : CV} {rest : List CV} {l : List Str} {e : List CV} {d : RouteS} (L : LocE H b 0 (c0 :: v :: rest)) (L5 : LocE H b5 0 [.fn 94 [] [.ptr (some (b, 0))]]) (sl : Sl H v l) (X : Ext H h) (fr : Fresh h) (r : Rp.R h e d) (hm : l.length ≤ 1099511627776) (sm : d.stops.length ≤ 1000 ∧ d.rides.length ≤ 1000 ∧ d.stays.length ≤ 1000)
    (q : ∀ h' e2, Ext h h' → OwnRC h' h.next e2 (d.num l) → Q (.val (.agg e2) h')) : W E1 (.call (.fn 100 [] [.ptr (some (b5, 0))]) [.agg e]) tm h Q := by
  obtain ⟨u1, u2, u3, rfl, t1, t2, t3⟩ := r
  refine W.fn (s := fnOf Tryz.f100) rfl rfl rfl rfl ?_
  repeat (first | (with_reducible first | refine W.seq ?_ | refine W.region ?_ | refine W.draws ?_ | refine SeqQ.normal ?_) | refine W.box rfl rfl rfl fun h_ X_ n_ g_ L_ => ?_ | refine W.al rfl rfl rfl fun h_ X_ n_ g_ L_ => ?_ | refine W.nil ?_)
  rename_i ha Xa na ga La
  have Xh : Ext h h_ := Xa.trans X_
  have ds := DX.start (Xh.fr fr)
  repeat (first | refine W.dopn (v := .ptr _) rfl rfl rfl rfl ?_ | refine W.dl0 (by assumption) (by assumption) (by (repeat (first | assumption | exact Ext.refl _ | refine Ext.trans ?_ (by assumption))); done) rfl rfl rfl rfl rfl rfl rfl fun r_ h_ ds_ s_ => ?_ | refine W.dlk (by assumption) (by assumption) (by (repeat (first | assumption | exact Ext.refl _ | refine Ext.trans ?_ (by assumption))); done) rfl rfl rfl rfl rfl rfl rfl fun r_ h_ ds_ s_ => ?_)
  have X1 := ds_.x
  have nx1 := X1.next
  refine W.dcallZ ds_ rfl rfl rfl rfl (all_int 94 [] [.ptr (some (b, 0))] (place l) (t1.ext (Xh.trans X1)) (by omega) (fun s _ tm h' Q X2 q => stop_w L sl (((X.trans Xh).trans X1).trans X2) s hm (q _ (Ext.refl _))) fun h1 w1 Y1 O1 => DZ.val Y1 fun r1 h1' ds1 s1 => ?_)
  have O1 := (O1.low (lo' := ha.next + 1) (by omega)).ext s1.ext
  obtain ⟨p1, m1, c1, y1, ee⟩ := O1.form
  cases ee
  clear ds_ ds
  repeat (first | refine W.dopn (v := .ptr _) rfl rfl rfl rfl ?_ | refine W.dlk (by assumption) (by assumption) (by (repeat (first | assumption | exact Ext.refl _ | refine Ext.trans ?_ (by assumption))); done) rfl rfl rfl rfl rfl rfl rfl fun r_ h_ ds_ s_ => ?_)
  have O1 := O1.ext s_.ext
  have X2 := ds_.x
  have nx2 := X2.next
  refine W.dcallZ ds_ rfl rfl rfl rfl (clone_int (t2.ext (Xh.trans X2)) (by omega) fun h2 w2 Y2 O2 => DZ.val Y2 fun r2 h2' ds2 s2 => ?_)
  have O1 := (O1.ext Y2).ext s2.ext
  have O2 := (O2.low (lo' := ha.next + 1) (by omega)).ext s2.ext
  obtain ⟨p2, m2, c2, y2, ee⟩ := O2.form
  cases ee
  clear ds_ ds1
  repeat (first | refine W.dopn (v := .ptr _) rfl rfl rfl rfl ?_ | refine W.dlk (by assumption) (by assumption) (by (repeat (first | assumption | exact Ext.refl _ | refine Ext.trans ?_ (by assumption))); done) rfl rfl rfl rfl rfl rfl rfl fun r_ h_ ds_ s_ => ?_)
  have O1 := O1.ext s_.ext
  have O2 := O2.ext s_.ext
  have X3 := ds_.x
  have nx3 := X3.next
  refine W.dcallZ ds_ rfl rfl rfl rfl (clone_int (t3.ext (Xh.trans X3)) (by omega) fun h3 w3 Y3 O3 => DZ.val Y3 fun r3 h3' ds3 s3 => ?_)
  have O1 := (O1.ext Y3).ext s3.ext
  have O2 := (O2.ext Y3).ext s3.ext
  have O3 := (O3.low (lo' := ha.next + 1) (by omega)).ext s3.ext
  obtain ⟨p3, m3, c3, y3, ee⟩ := O3.form
  cases ee
  clear ds_ ds2
  repeat (first | refine W.dopn (v := .agg _) rfl rfl rfl rfl ?_)
  have X4 := ds3.x
  have nx4 := X4.next
  refine W.dst (vs := [.slice p1 m1 c1 y1, .slice p2 m2 c2 y2, .slice p3 m3 c3 y3]) (cs' := [.slice p1 m1 c1 y1, .slice p2 m2 c2 y2, .slice p3 m3 c3 y3]) ds3.hri rfl rfl rfl rfl rfl rfl rfl ((X4.old ha.next (by omega)).trans g_) rfl fun r4 h4 hr4 s4 => ?_
  have g4 : h4.get ha.next = some (.cells [.slice p1 m1 c1 y1, .slice p2 m2 c2 y2, .slice p3 m3 c3 y3] false) := by rw [s4.get, put_same]
  have Xf : Ext h h4 := ((Xh.trans X4).put (by omega) (by omega) _).trans s4.ext
  have oth : ∀ {v : CV} {z : Nat} {l : List (List CV)}, OwnR h3' (ha.next + 1) z v l → OwnR h4 h.next z v l := fun O => ((O.other (h' := h4) (by rw [s4.next]; exact Nat.le_refl _) fun k hk _ _ => by rw [s4.get, Heap.get_put, if_neg (by omega)]).low (by omega))
  repeat (first | refine W.dnil ?_)
  repeat (first | (with_reducible first | refine W.ret ?_ | refine SeqQ.normal ?_))
  refine BodyQ.cell1 rfl rfl g4 rfl rfl ?_
  exact q _ _ Xf ⟨_, _, _, rfl, oth O1, oth O2, oth O3⟩
theorem all_routeW {h : Heap} {tm : Tm} {Q : R → Prop} {v : CV} {l : List RouteS} (f : Nat) (first caps : List CV) (F : RouteS → RouteW) (sl : Sl h v l) (hm : l.length ≤ 1048576)
    (hf : ∀ d, d ∈ l → ∀ e, Rp.R h e d → ∀ (tm : Tm) (h' : Heap) (Q : R → Prop), Ext h h' → (∀ h2 e2, Ext h' h2 → OwnRC h2 h'.next e2 (F d) → Q (.val (.agg e2) h2)) → W E1 (.call (.fn f first caps) [.agg e]) tm h' Q)
    (q : ∀ h' v', Ext h h' → OwnRoutes h' h.next v' (l.map F) → Q (.val v' h')) : W E1 (.call (.fn 99 [] []) [v, .fn f first caps]) tm h Q := by
  refine W.fn (s := fnOf Tryz.f99) rfl rfl rfl rfl ?_
  repeat (first | (with_reducible first | refine W.seq ?_ | refine W.block ?_ | refine W.region ?_ | refine SeqQ.normal ?_) | refine W.lnS (by assumption) rfl rfl rfl rfl rfl rfl rfl rfl ?_ | refine W.opn (v := .int _ _) rfl rfl rfl ?_ | refine W.opn (v := .slice _ _ _ _) rfl rfl rfl ?_ | refine W.opn rfl rfl rfl ?_ | refine W.nil ?_)
  refine W.loop (σ := Nat) (fun k tm h' => Ext h h' ∧ tm.look 1 = .fn f first caps ∧ tm.look 7 = v ∧ tm.look 8 = .int .i64 (l.length : Int) ∧ tm.look 9 = .int .i64 (k : Int) ∧ k ≤ l.length ∧ ∃ vo css, tm.look 4 = vo ∧ OwnR h' h.next 3 vo css ∧ css.length = k ∧ ∀ (j : Nat) (e : List CV) (d : RouteS), css[j]? = some e → l[j]? = some d → OwnRC h' h.next e (F d) ∧ ∀ c, c ∈ e → ∀ i, idOf c = [i] → idOf vo ≠ [i]) (fun k => l.length - k) ?_ (s := 0)
    ⟨Ext.refl _, rfl, rfl, rfl, rfl, Nat.zero_le _, _, [], rfl, OwnR.nil, rfl, fun j e d he => by simp at he⟩
  rintro k tm h' ⟨X, w1, w7, w8, w9, hk, vo, css, w4, O, hcl, hce⟩
  obtain ⟨pv, nv, cv, xv, e⟩ := O.form
  cases e
  obtain ⟨T, rfl⟩ : ∃ T : Tm, tm = (((((T.set 1 (some (.fn f first caps))).set 4 (some (.slice pv nv cv xv))).set 7 (some (v))).set 8 (some (.int .i64 (l.length : Int)))).set 9 (some (.int .i64 (k : Int)))) := ⟨tm, (show tm = (((((tm.set 1 (some (tm.look 1))).set 4 (some (tm.look 4))).set 7 (some (tm.look 7))).set 8 (some (tm.look 8))).set 9 (some (tm.look 9))) by rfl).trans (by rw [w1, w4, w7, w8, w9])⟩
  clear w1 w4 w7 w8 w9
  by_cases c1 : k < l.length
  · repeat (first | (with_reducible first | refine W.seq ?_ | refine W.block ?_ | refine W.region ?_ | refine W.skip ?_ | refine SeqQ.normal ?_) | refine W.opn rfl op_lss rfl ?_ | refine W.nil ?_ | refine W.cond (x := true) rfl (fun _ => ?_) (fun hc => by cases hc) | rw [decide_eq_true (by first | assumption | omega)])
    refine W.ixR sl c1 rfl rfl rfl rfl rfl rfl rfl fun i_ o_ e L_ r_ => ?_
    have hlen := Rp.len r_
    repeat (first | (with_reducible first | refine W.region ?_ | refine SeqQ.normal ?_) | refine W.var rfl rfl rfl rfl rfl rfl rfl rfl rfl (by first | rfl | assumption) rfl fun h_ X_ n_ g_ L_ => ?_ | refine W.opn (v := .slice _ _ _ _) rfl rfl rfl ?_ | refine W.opn rfl rfl rfl ?_ | refine W.nil ?_ | refine W.ldw (by assumption) (by (repeat (first | assumption | exact Ext.refl _ | refine Ext.trans ?_ (by assumption))); done) rfl rfl rfl rfl (by first | rfl | assumption) rfl rfl ?_)
    have X9 : Ext h' h_ := (by (repeat (first | assumption | exact Ext.refl _ | refine Ext.trans ?_ (by assumption))); done)
    refine W.call rfl rfl rfl (hf l[k] (List.getElem_mem c1) e r_ _ _ _ (X.trans X9) fun h2 e2 X2 R2 => ?_)
    have hlen2 := R2.len
    have R2o := R2
    obtain ⟨u1, u2, u3, rfl, _, _, _⟩ := R2o
    refine W.keep7 1 4 7 8 9 13 16 fun T k1 k4 k7 k8 k9 k13 k16 => ?_
    conv at k1 => rhs; whnf
    conv at k4 => rhs; whnf
    conv at k7 => rhs; whnf
    conv at k8 => rhs; whnf
    conv at k9 => rhs; whnf
    conv at k13 => rhs; whnf
    conv at k16 => rhs; whnf
    rw [show T = (((((((T.set 1 (some (T.look 1))).set 4 (some (T.look 4))).set 7 (some (T.look 7))).set 8 (some (T.look 8))).set 9 (some (T.look 9))).set 13 (some (T.look 13))).set 16 (some (T.look 16))) from rfl, k1, k4, k7, k8, k9, k13, k16]
    clear k1 k4 k7 k8 k9 k13 k16
    repeat (first | refine W.bsS rfl rfl rfl fun h_ X_ n_ g_ S_ => ?_)
    have S_ : SlG _ 3 _ [[u1, u2, u3]] := S_
    have nX9 := X9.next
    have nX2 := X2.next
    have nX := X.next
    refine W.apR2 (H := h) (z := 3) (X.trans (X9.trans (X2.trans X_))) (O.ext (X9.trans (X2.trans X_))) S_ (by simp) rfl rfl rfl rfl rfl rfl rfl rfl rfl rfl rfl rfl (by
      simp only [List.length_cons, List.length_nil]
      show _ * 72 ≤ _
      omega) fun v' h3 X3 O3 k3 n3 i3 => ?_
    obtain ⟨pv2, nv2, cv2, xv2, e⟩ := O3.form
    cases e
    repeat (first | (with_reducible first | refine W.region ?_ | refine SeqQ.normal ?_ | refine BlockQ.normal ?_) | refine W.opn rfl (op_add (by omega) (by omega)) rfl ?_ | refine W.opn (v := .int _ _) rfl rfl rfl ?_ | refine W.opn (v := .slice _ _ _ _) rfl rfl rfl ?_ | refine W.nil ?_)
    refine ⟨k + 1, lessN c1, X3, rfl, rfl, rfl, rfl, c1, _, _, rfl, O3, by rw [List.length_append, hcl]; rfl, fun j e d he hd => ?_⟩
    have hlast : ∀ {e : List CV} {d : RouteW} {hh : Heap} {lo : Nat}, OwnRC hh lo e d → hh.next ≤ h_.next → ∀ c, c ∈ e → ∀ i, idOf c = [i] → idOf (CV.slice pv2 nv2 cv2 xv2) ≠ [i] := fun o hn c hc i hi => by
      rw [i3]
      intro e
      have e : h_.next = i := by simpa using e
      have := (o.idlt c hc i hi).1
      omega
    by_cases hj : j < k
    · rw [List.getElem?_append_left (by omega)] at he
      obtain ⟨g1, g2⟩ := hce j e d he hd
      have g1' := (((g1.ext X9).ext X2).ext X_)
      refine ⟨g1'.other (by omega) fun c hc i _ hi hid => k3 i hi (g2 c hc i hid), hlast g1' (Nat.le_refl _)⟩
    · have hj2 : j = k := by
        have := (List.getElem?_eq_some_iff.1 he).1
        simp only [List.length_append, List.length_cons, List.length_nil] at this
        omega
      subst hj2
      rw [List.getElem?_append_right (by omega), hcl, Nat.sub_self] at he
      have he : [u1, u2, u3] = e := by simpa using he
      subst he
      rw [List.getElem?_eq_getElem c1] at hd
      cases hd
      have R3 := (R2.ext X_)
      refine ⟨(R3.other (h' := h3) (by omega) fun c hc i hlo hi hid => k3 i hi fun e => ?_).low (by omega), hlast R3 (Nat.le_refl _)⟩
      have := (O.idlt e).1
      omega
  · repeat (first | (with_reducible first | refine W.seq ?_ | refine W.region ?_ | refine W.exit ?_ | refine W.ret ?_ | refine SeqQ.normal ?_ | refine SeqQ.exit ?_ | refine BlockQ.exit ?_ | refine LoopQ.exit ?_) | refine W.opn rfl op_lss rfl ?_ | refine W.opn (v := .slice _ _ _ _) rfl rfl rfl ?_ | refine W.nil ?_ | refine W.cond (x := false) rfl (fun hc => by cases hc) (fun _ => ?_) | rw [decide_eq_false (by first | assumption | omega)])
    refine q _ _ X ⟨css, O, by rw [List.length_map]; omega, fun j e d he hd => ?_⟩
    rw [List.getElem?_map] at hd
    cases hl : l[j]? with
    | none => rw [hl] at hd; cases hd
    | some a =>
      rw [hl] at hd
      cases hd
      exact (hce j e a he hl).1
end
end Go.Proofs.YtmgpjfnlciapkaaGreatDoor
