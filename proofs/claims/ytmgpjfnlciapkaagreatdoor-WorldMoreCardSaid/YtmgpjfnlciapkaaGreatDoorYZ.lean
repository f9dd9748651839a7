/- What is made of a sheet. No condition but that the table of spaces lies where it does and memory beyond the next number is empty. -/
import Derived.Test.YtmgpjfnlciapkaaGreatDoorYW
import Derived.Test.YtmgpjfnlciapkaaGreatDoorYH
import Derived.Test.YtmgpjfnlciapkaaGreatDoorYL
import Derived.Test.YtmgpjfnlciapkaaGreatDoorZA
import Derived.Test.YtmgpjfnlciapkaaGreatDoorYA
set_option linter.unusedVariables false
set_option linter.unusedSimpArgs false
namespace Go.Proofs.YtmgpjfnlciapkaaGreatDoor
open Go Go.CM Go.CM.Tt
noncomputable section
set_option maxHeartbeats 16000000
theorem make_w0 {h : Heap} {tm : Tm} {Q : R → Prop} {cs : List CV} {x : SheetD} (r : Rp.R h cs x) (rh : RH h) (fr : Fresh h) (sm : x.slim) (q : ∀ h' c1, Ext h h' → (∀ M : Heap, h'.next ≤ M.next → (∀ k, h.next ≤ k → k < h'.next → M.get k = h'.get k) → Rp.R M c1 x.make.1) → Q (.val (.tup [.agg c1, .agg x.make.2.enc]) h')) : W E1 (.call (.fn 8 [] []) [.agg cs]) tm h Q := by
  have r0 := r
  obtain ⟨v1, v2, v3, v4, v5, v6, rfl, s1, s2, s3, s4, s5, s6⟩ := r
  refine W.fn (s := fnOf Tryz.f8) rfl rfl rfl rfl ?_
  repeat (refine W.seq ?_)
  refine W.region ?_
  refine W.box rfl rfl rfl fun H1 X1 n1 g1 L1 => ?_
  refine W.al rfl rfl rfl fun H2 X2 n2 g2 L2 => ?_
  refine W.al rfl rfl rfl fun H3 X3 n3 g3 L3 => ?_
  clear L2 L3
  have g2 : H3.get H1.next = some (.cells [.int .i64 0, .slice none 0 0 0, .slice none 0 0 0, .slice none 0 0 0, .slice none 0 0 0, .slice none 0 0 0, .slice none 0 0 0, .slice none 0 0 0, .slice none 0 0 0, .slice none 0 0 0, .slice none 0 0 0, .slice none 0 0 0] false) := (X3.old _ (by omega)).trans g2
  have g3 : H3.get H2.next = some (.cells [.int .i64 0, .int .i64 0, .int .i64 0] false) := g3
  have X0 : Ext h H3 := (X1.trans X2).trans X3
  have L1 := (L1.ext X2).ext X3
  have l1 : H1.next < H3.next := by omega
  have l2 : H2.next < H3.next := by omega
  have l0 : h.next < H1.next := by omega
  have l12 : H1.next < H2.next := by omega
  clear g1
  repeat (first | (with_reducible first | refine W.seq ?_ | refine W.region ?_ | refine SeqQ.normal ?_) | refine W.nil ?_ | refine W.ldw (by assumption) (by (repeat (first | assumption | exact Ext.refl _ | refine Ext.trans ?_ (by assumption))); done) rfl rfl rfl rfl (by first | rfl | assumption) rfl rfl ?_)
  refine W.call rfl rfl rfl (sheetCheck_w (Rp.ext X0 r0) (rh.ext X0) sm fun H4 X4 => ?_)
  refine W.keep4 1 2 3 8 fun T k1 k2 k3 k8 => ?_
  conv at k1 => rhs; whnf
  conv at k2 => rhs; whnf
  conv at k3 => rhs; whnf
  conv at k8 => rhs; whnf
  rw [show T = ((((T.set 1 (some (T.look 1))).set 2 (some (T.look 2))).set 3 (some (T.look 3))).set 8 (some (T.look 8))) from rfl, k1, k2, k3, k8]
  clear k1 k2 k3 k8
  have L1 := L1.ext X4
  have g2 := (X4.old _ l1).trans g2
  have g3 := (X4.old _ l2).trans g3
  have Y4 := X0.trans X4
  have nx4 := X4.next
  by_cases c : x.err = 0
  · have ok : x.Ok := SheetD.err_zero.1 c
    repeat (first | (with_reducible first | refine W.seq ?_ | refine W.region ?_ | refine W.skip ?_ | refine SeqQ.normal ?_) | refine W.opn rfl op_neq rfl ?_ | refine W.opn (v := .int _ _) rfl rfl rfl ?_ | refine W.nil ?_ | refine W.ldw (by assumption) (by (repeat (first | assumption | exact Ext.refl _ | refine Ext.trans ?_ (by assumption))); done) rfl rfl rfl rfl (by first | rfl | assumption) rfl rfl ?_ | refine W.cond (x := false) rfl (fun hc => by cases hc) (fun _ => ?_) | rw [decide_eq_false (by first | assumption | omega)])
    refine W.call rfl rfl rfl (numbered_w (Rp.ext Y4 r0) (Y4.fr fr) ok.1 sm fun H5 e X5 r50 => ?_)
    have r5 := r50 H5 (Nat.le_refl _) fun _ _ _ => rfl
    have r51 := r5
    obtain ⟨u1, u2, u3, u4, u5, u6, u7, u8, u9, u10, u11, rfl, t1, t2, t3, t4, t5, t6, t7, t8, t9, t10, t11⟩ := r5
    refine W.keep4 1 2 3 15 fun T k1 k2 k3 k15 => ?_
    conv at k1 => rhs; whnf
    conv at k2 => rhs; whnf
    conv at k3 => rhs; whnf
    conv at k15 => rhs; whnf
    rw [show T = ((((T.set 1 (some (T.look 1))).set 2 (some (T.look 2))).set 3 (some (T.look 3))).set 15 (some (T.look 15))) from rfl, k1, k2, k3, k15]
    clear k1 k2 k3 k15
    have nx5 := X5.next
    repeat (first | (with_reducible first | refine W.seq ?_ | refine W.region ?_ | refine SeqQ.normal ?_) | refine W.var rfl rfl rfl rfl rfl rfl rfl rfl rfl (by first | rfl | assumption) rfl fun h_ X_ n_ g_ L_ => ?_ | refine W.nil ?_)
    have Y5 : Ext h h_ := (Y4.trans X5).trans X_
    have nx6 := X_.next
    refine W.call rfl rfl rfl (wrong_w (rh.ext Y5) (Y5.fr fr) L_ (Rp.ext X_ r51) ok.numNames ok.numFew x.numLens ok.numRoutes fun H6 X6 => ?_)
    have L5 := L_.ext X6
    have nx7 := X6.next
    have g2 := (X6.old _ (by omega)).trans ((X_.old _ (by omega)).trans ((X5.old _ (by omega)).trans g2))
    have g3 := (X6.old _ (by omega)).trans ((X_.old _ (by omega)).trans ((X5.old _ (by omega)).trans g3))
    have r6 := Rp.ext X6 (Rp.ext X_ r51)
    have Y6 := Y5.trans X6
    have Z6 := X_.trans X6
    have b5 : H4.next ≤ H5.next := nx5
    refine W.keep5 1 2 3 5 16 fun T k1 k2 k3 k5 k16 => ?_
    conv at k1 => rhs; whnf
    conv at k2 => rhs; whnf
    conv at k3 => rhs; whnf
    conv at k5 => rhs; whnf
    conv at k16 => rhs; whnf
    rw [show T = (((((T.set 1 (some (T.look 1))).set 2 (some (T.look 2))).set 3 (some (T.look 3))).set 5 (some (T.look 5))).set 16 (some (T.look 16))) from rfl, k1, k2, k3, k5, k16]
    clear k1 k2 k3 k5 k16
    clear g_ L_ X_
    repeat (first | (with_reducible first | refine W.seq ?_ | refine W.region ?_ | refine SeqQ.normal ?_) | refine W.var rfl rfl rfl rfl rfl rfl rfl rfl rfl (by first | rfl | assumption) rfl fun h_ X_ n_ g_ L_ => ?_ | refine W.opn rfl op_neq rfl ?_ | refine W.opn (v := .ptr _) rfl rfl rfl ?_ | refine W.nil ?_ | refine W.ldk (by assumption) (by (repeat (first | assumption | exact Ext.refl _ | refine Ext.trans ?_ (by assumption))); done) rfl rfl rfl rfl rfl rfl rfl rfl ?_)
    have Y7 : Ext h h_ := Y6.trans X_
    have Z5 : Ext H5 h_ := Z6.trans X_
    have L5 := L5.ext X_
    have r7 := Rp.ext X_ r6
    have g2 := (X_.old _ (by omega)).trans g2
    have g3 := (X_.old _ (by omega)).trans g3
    have lb1 : H1.next < h_.next := by omega
    have lb2 : H2.next < h_.next := by omega
    by_cases c2 : x.num.wrong.err = 0
    · have em : x.make = (x.num, Wrong0) := by unfold SheetD.make; rw [if_pos c, if_pos c2]
      rw [em] at q
      repeat (first | (with_reducible first | refine W.seq ?_ | refine W.region ?_ | refine W.skip ?_ | refine SeqQ.normal ?_) | refine W.opn (v := .agg _) rfl rfl rfl ?_ | refine W.ldw (by assumption) (by (repeat (first | assumption | exact Ext.refl _ | refine Ext.trans ?_ (by assumption))); done) rfl rfl rfl rfl (by first | rfl | assumption) rfl rfl ?_ | refine W.cond (x := false) rfl (fun hc => by cases hc) (fun _ => ?_) | rw [decide_eq_false (by first | assumption | omega)])
      refine W.stn (vs := [.int .i64 x.num.hz, u1, u2, u3, u4, u5, u6, u7, u8, u9, u10, u11]) (cs' := [.int .i64 x.num.hz, u1, u2, u3, u4, u5, u6, u7, u8, u9, u10, u11]) rfl rfl rfl rfl rfl rfl g2 rfl fun M1 m1 gM1 kM1 => ?_
      skip
      refine W.stn (vs := [.int .i64 0, .int .i64 0, .int .i64 0]) (cs' := [.int .i64 0, .int .i64 0, .int .i64 0]) rfl rfl rfl rfl rfl rfl ((kM1 H2.next (by omega)).trans g3) rfl fun M2 m2 gM2 kM2 => ?_
      repeat (first | (with_reducible first | refine W.ret ?_ | refine SeqQ.normal ?_) | refine W.nil ?_)
      refine BodyQ.cell2 rfl rfl rfl ((kM2 H1.next (by omega)).trans gM1) gM2 rfl rfl rfl rfl ?_
      refine q M2 _ (Ext.store (Ext.store Y7 m1 kM1 (by omega) lb1) m2 kM2 (by omega) (by omega)) (fun M hMn hM => r50 M (by have := Z5.next; omega) fun k a b => ?_)
      have := Z5.next
      rw [hM k (by have := X4.next; have := X0.next; omega) (by omega), kM2 k (by omega), kM1 k (by omega)]
      exact Z5.old k b
    · have em : x.make = (WorldD.none, x.num.wrong) := by unfold SheetD.make; rw [if_pos c, if_neg c2]
      rw [em] at q
      repeat (first | (with_reducible first | refine W.seq ?_ | refine W.draws ?_) | refine W.cond (x := true) rfl (fun _ => ?_) (fun hc => by cases hc) | rw [decide_eq_true (by first | assumption | omega)])
      have dv : DV (fun b => b = H6.next) h_ [] [] [] := DV.start (fun b hb => by rw [hb]; omega)
      repeat (first | refine W.dopn (v := .agg _) rfl rfl rfl rfl ?_)
      refine W.ldVw dv rfl L_ rfl rfl rfl rfl rfl rfl fun q1 G1 dv1 s1 L1' => ?_
      skip
      refine W.stV (vs := [.int .i64 0, .slice none 0 0 0, .slice none 0 0 0, .slice none 0 0 0, .slice none 0 0 0, .slice none 0 0 0, .slice none 0 0 0, .slice none 0 0 0, .slice none 0 0 0, .slice none 0 0 0, .slice none 0 0 0, .slice none 0 0 0]) (cs' := [.int .i64 0, .slice none 0 0 0, .slice none 0 0 0, .slice none 0 0 0, .slice none 0 0 0, .slice none 0 0 0, .slice none 0 0 0, .slice none 0 0 0, .slice none 0 0 0, .slice none 0 0 0, .slice none 0 0 0, .slice none 0 0 0]) dv1 (by show ¬ H1.next = H6.next; omega) rfl rfl rfl rfl rfl rfl rfl ((s1.get _).trans g2) rfl fun q2 G2 hr2 s2 => ?_
      skip
      have n1' := s1.next
      have n2' : G2.next = G1.next := s2.next
      have k2 : ∀ k, k ≠ H1.next → G2.get k = G1.get k := fun k hk => by rw [s2.get, Heap.get_put, if_neg (Ne.symm hk)]
      have gG2 : G2.get H1.next = some (.cells [.int .i64 0, .slice none 0 0 0, .slice none 0 0 0, .slice none 0 0 0, .slice none 0 0 0, .slice none 0 0 0, .slice none 0 0 0, .slice none 0 0 0, .slice none 0 0 0, .slice none 0 0 0, .slice none 0 0 0, .slice none 0 0 0] false) := by rw [s2.get, put_same]
      refine W.dst (vs := [.int .i64 x.num.wrong.err, .int .i64 x.num.wrong.kind, .int .i64 x.num.wrong.pos]) (cs' := [.int .i64 x.num.wrong.err, .int .i64 x.num.wrong.kind, .int .i64 x.num.wrong.pos]) hr2 rfl rfl rfl rfl rfl rfl rfl ((k2 H2.next (by omega)).trans ((s1.get _).trans g3)) rfl fun q3 G3 hr3 s3 => ?_
      repeat (first | refine W.dnil ?_)
      have n3' : G3.next = G2.next := s3.next
      have k3 : ∀ k, k ≠ H2.next → G3.get k = G2.get k := fun k hk => by rw [s3.get, Heap.get_put, if_neg (Ne.symm hk)]
      have gG3 : G3.get H2.next = some (.cells [.int .i64 x.num.wrong.err, .int .i64 x.num.wrong.kind, .int .i64 x.num.wrong.pos] false) := by rw [s3.get, put_same]
      repeat (first | (with_reducible first | refine W.ret ?_ | refine SeqQ.normal ?_ | refine SeqQ.ret ?_))
      refine BodyQ.cell2 rfl rfl rfl ((k3 H1.next (by omega)).trans gG2) gG3 rfl rfl rfl rfl ?_
      exact q G3 _ (Ext.store (Ext.store (Y7.trans s1.ext) n2' k2 (by omega) (by omega)) n3' k3 (by omega) (by omega)) fun _ _ _ => ⟨_, _, _, _, _, _, _, _, _, _, _, rfl, Sl.nil, Sl.nil, Sl.nil, Sl.nil, Sl.nil, Sl.nil, Sl.nil, Sl.nil, Sl.nil, Sl.nil, Sl.nil⟩
  · have em : x.make = (WorldD.none, ⟨x.err, 0, 0⟩) := by unfold SheetD.make; rw [if_neg c]
    rw [em] at q
    repeat (first | (with_reducible first | refine W.seq ?_ | refine W.region ?_ | refine SeqQ.normal ?_) | refine W.opn rfl op_neq rfl ?_ | refine W.opn (v := .int _ _) rfl rfl rfl ?_ | refine W.opn (v := .agg _) rfl rfl rfl ?_ | refine W.nil ?_ | refine W.cond (x := true) rfl (fun _ => ?_) (fun hc => by cases hc) | rw [decide_eq_true (by first | assumption | omega)])
    refine W.stn (vs := [.int .i64 0, .slice none 0 0 0, .slice none 0 0 0, .slice none 0 0 0, .slice none 0 0 0, .slice none 0 0 0, .slice none 0 0 0, .slice none 0 0 0, .slice none 0 0 0, .slice none 0 0 0, .slice none 0 0 0, .slice none 0 0 0]) (cs' := [.int .i64 0, .slice none 0 0 0, .slice none 0 0 0, .slice none 0 0 0, .slice none 0 0 0, .slice none 0 0 0, .slice none 0 0 0, .slice none 0 0 0, .slice none 0 0 0, .slice none 0 0 0, .slice none 0 0 0, .slice none 0 0 0]) rfl rfl rfl rfl rfl rfl g2 rfl fun M1 m1 gM1 kM1 => ?_
    skip
    refine W.stn (vs := [.int .i64 x.err, .int .i64 0, .int .i64 0]) (cs' := [.int .i64 x.err, .int .i64 0, .int .i64 0]) rfl rfl rfl rfl rfl rfl ((kM1 H2.next (by omega)).trans g3) rfl fun M2 m2 gM2 kM2 => ?_
    repeat (first | (with_reducible first | refine W.ret ?_ | refine SeqQ.normal ?_ | refine SeqQ.ret ?_) | refine W.nil ?_)
    refine BodyQ.cell2 rfl rfl rfl ((kM2 H1.next (by omega)).trans gM1) gM2 rfl rfl rfl rfl ?_
    exact q M2 _ (Ext.store (Ext.store Y4 m1 kM1 (by omega) (by omega)) m2 kM2 (by omega) (by omega)) fun _ _ _ => ⟨_, _, _, _, _, _, _, _, _, _, _, rfl, Sl.nil, Sl.nil, Sl.nil, Sl.nil, Sl.nil, Sl.nil, Sl.nil, Sl.nil, Sl.nil, Sl.nil, Sl.nil⟩
theorem make_w {h : Heap} {tm : Tm} {Q : R → Prop} {cs : List CV} {x : SheetD} (r : Rp.R h cs x) (rh : RH h) (fr : Fresh h) (sm : x.slim) (q : ∀ h' c1, Ext h h' → Rp.R h' c1 x.make.1 → Q (.val (.tup [.agg c1, .agg x.make.2.enc]) h')) : W E1 (.call (.fn 8 [] []) [.agg cs]) tm h Q :=
  make_w0 r rh fr sm fun h' c1 X s => q h' c1 X (s h' (Nat.le_refl _) fun _ _ _ => rfl)
end
end Go.Proofs.YtmgpjfnlciapkaaGreatDoor

noncomputable section
namespace Go.CM.Tt
def idsOf (cs : List CV) : List Nat := cs.flatMap idOf
theorem nodup_behind {l m : List Nat} {n : Nat} (h1 : l.Nodup) (h2 : ∀ a ∈ l, a < n) (h3 : m.Nodup) (h4 : ∀ b ∈ m, n ≤ b) : (l ++ m).Nodup :=
  List.nodup_append.2 ⟨h1, h3, fun a ha b hb e => by have := h2 a ha; have := h4 b hb; omega⟩
theorem idOf_one (v : CV) : idOf v = [] ∨ ∃ k, idOf v = [k] := by
  cases v with
  | ptr p => rcases p with _ | ⟨i, o⟩; exact .inl rfl; exact .inr ⟨i, rfl⟩
  | slice p n c x => rcases p with _ | ⟨i, o⟩; exact .inl rfl; exact .inr ⟨i, rfl⟩
  | map p => rcases p with _ | i; exact .inl rfl; exact .inr ⟨i, rfl⟩
  | _ => first | exact .inl rfl | exact .inr ⟨_, rfl⟩
theorem OwnR.ids {h : Heap} {lo z : Nat} {v : CV} {l : List (List CV)} (o : OwnR h lo z v l) : ∀ k ∈ idOf v, lo ≤ k ∧ k < h.next := by
  intro k hk
  rcases idOf_one v with e | ⟨j, e⟩
  · rw [e] at hk; cases hk
  · rw [e] at hk
    rw [List.mem_singleton.1 hk]
    exact ⟨(o.idlt e).2, (o.idlt e).1⟩
theorem OwnR.idNodup (v : CV) : (idOf v).Nodup := by
  rcases idOf_one v with e | ⟨j, e⟩ <;> rw [e] <;> simp
def OwnRS (h : Heap) (lo : Nat) (e : List CV) (d : RouteS) : Prop := ∃ u1 u2 u3, e = [.str d.name, u1, u2, u3] ∧ OwnR h lo 1 u1 (d.stops.map Flat.enc) ∧ OwnR h lo 1 u2 (d.rides.map Flat.enc) ∧ OwnR h lo 1 u3 (d.stays.map Flat.enc)
section
variable {h h' : Heap} {lo lo' : Nat} {e : List CV} {d : RouteS} {x : SheetD}
theorem OwnRS.ext (o : OwnRS h lo e d) (x : Ext h h') : OwnRS h' lo e d := by
  obtain ⟨u1, u2, u3, rfl, o1, o2, o3⟩ := o
  exact ⟨u1, u2, u3, rfl, o1.ext x, o2.ext x, o3.ext x⟩
theorem OwnRS.low (o : OwnRS h lo e d) (hl : lo' ≤ lo) : OwnRS h lo' e d := by
  obtain ⟨u1, u2, u3, rfl, o1, o2, o3⟩ := o
  exact ⟨u1, u2, u3, rfl, o1.low hl, o2.low hl, o3.low hl⟩
theorem OwnRS.other (o : OwnRS h lo e d) (hn : h.next ≤ h'.next) (hk : ∀ k, k ∈ idsOf e → h'.get k = h.get k) : OwnRS h' lo e d := by
  obtain ⟨u1, u2, u3, rfl, o1, o2, o3⟩ := o
  exact ⟨u1, u2, u3, rfl, o1.other hn fun k _ _ hi => hk k (by simp [idsOf, hi]), o2.other hn fun k _ _ hi => hk k (by simp [idsOf, hi]), o3.other hn fun k _ _ hi => hk k (by simp [idsOf, hi])⟩
theorem OwnRS.ids (o : OwnRS h lo e d) : ∀ k ∈ idsOf e, lo ≤ k ∧ k < h.next := by
  obtain ⟨u1, u2, u3, rfl, o1, o2, o3⟩ := o
  intro k hk
  have hk : k ∈ idOf (.str d.name) ++ (idOf u1 ++ (idOf u2 ++ (idOf u3 ++ []))) := hk
  simp only [List.mem_append, List.not_mem_nil, or_false] at hk
  rcases hk with hk | hk | hk | hk
  · cases hk
  · exact OwnR.ids o1 k hk
  · exact OwnR.ids o2 k hk
  · exact OwnR.ids o3 k hk
theorem OwnRS.len (o : OwnRS h lo e d) : e.length = 4 := by
  obtain ⟨u1, u2, u3, rfl, _⟩ := o
  rfl
theorem OwnRS.rp (o : OwnRS h lo e d) : Rp.R h e d := by
  obtain ⟨u1, u2, u3, rfl, o1, o2, o3⟩ := o
  exact ⟨u1, u2, u3, rfl, o1.toSl, o2.toSl, o3.toSl⟩
def OwnRs (h : Heap) (lo : Nat) (v : CV) (css : List (List CV)) (l : List RouteS) : Prop := OwnR h lo 4 v css ∧ css.length = l.length ∧ ∀ (j : Nat) (e : List CV) (d : RouteS), css[j]? = some e → l[j]? = some d → OwnRS h lo e d
def idsIn (css : List (List CV)) : List Nat := css.flatMap idsOf
theorem OwnRs.ext {v : CV} {css : List (List CV)} {l : List RouteS} (o : OwnRs h lo v css l) (x : Ext h h') : OwnRs h' lo v css l :=
  ⟨o.1.ext x, o.2.1, fun j e d he hd => (o.2.2 j e d he hd).ext x⟩
theorem OwnRs.low {v : CV} {css : List (List CV)} {l : List RouteS} (o : OwnRs h lo v css l) (hl : lo' ≤ lo) : OwnRs h lo' v css l :=
  ⟨o.1.low hl, o.2.1, fun j e d he hd => (o.2.2 j e d he hd).low hl⟩
theorem OwnRs.other {v : CV} {css : List (List CV)} {l : List RouteS} (o : OwnRs h lo v css l) (hn : h.next ≤ h'.next) (hk : ∀ k, k ∈ idOf v ++ idsIn css → h'.get k = h.get k) : OwnRs h' lo v css l :=
  ⟨o.1.other hn fun k _ _ hi => hk k (by simp [hi]), o.2.1, fun j e d he hd => (o.2.2 j e d he hd).other hn fun k hi => hk k (List.mem_append_right _ (List.mem_flatMap.2 ⟨e, List.mem_of_getElem? he, hi⟩))⟩
theorem OwnRs.idsI {v : CV} {css : List (List CV)} {l : List RouteS} (o : OwnRs h lo v css l) : ∀ k ∈ idsIn css, lo ≤ k ∧ k < h.next := by
  intro k hk
  obtain ⟨e, he, hi⟩ := List.mem_flatMap.1 hk
  obtain ⟨j, hj, hej⟩ := List.getElem_of_mem he
  have hd : l[j]? = some (l[j]'(by rw [← o.2.1]; exact hj)) := List.getElem?_eq_getElem _
  exact (o.2.2 j e _ (by rw [List.getElem?_eq_getElem hj, hej]) hd).ids k hi
theorem OwnRs.toSl {v : CV} {css : List (List CV)} {l : List RouteS} (o : OwnRs h lo v css l) : Sl h v l :=
  ⟨css, o.1.sl, o.2.1, fun j e d he hd => (o.2.2 j e d he hd).rp⟩
structure OwnSh (h : Heap) (lo : Nat) (hz : CV) (n1 n2 n3 vr n5 n6 : CV) (x : SheetD) : Prop where
  hz : hz = .int .i64 x.hz
  o1 : OwnR h lo 1 n1 (x.stops.map Flat.enc)
  o2 : OwnR h lo 4 n2 (x.paths.map Flat.enc)
  o3 : OwnR h lo 7 n3 (x.doors.map Flat.enc)
  o5 : OwnR h lo 5 n5 (x.trips.map Flat.enc)
  o6 : OwnR h lo 5 n6 (x.hazards.map Flat.enc)
  r : ∃ css, OwnRs h lo vr css x.routes ∧ ((idOf n1 ++ idOf n2 ++ idOf n3 ++ idOf n5 ++ idOf n6) ++ (idsIn css ++ idOf vr)).Nodup
variable {hz n1 n2 n3 vr n5 n6 : CV}
end
end Go.CM.Tt
