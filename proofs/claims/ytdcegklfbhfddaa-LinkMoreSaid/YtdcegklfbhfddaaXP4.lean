/- A net of one's own: the whole copy. No condition. -/
import Derived.Test.YtdcegklfbhfddaaXP3
import Derived.Test.YtdcegklfbhfddaaXNk
namespace Go.Proofs.Ytdcegklfbhfddaa
set_option linter.unusedVariables false
set_option linter.unusedSimpArgs false
open Go Go.CM
noncomputable section
set_option maxHeartbeats 16000000

theorem OwnC.low {h : Heap} {own : Nat → Tag} {lo lo' : Nat} {v : CV} {l : List (List (Int × Int))} (o : OwnC h own lo v l) (hl : lo' ≤ lo) : OwnC h own lo' v l := by
  obtain ⟨css, h1, h2, h3⟩ := o
  refine ⟨css, h1.low hl, h2, fun j cs w hc hw => ?_⟩
  obtain ⟨u, e, s⟩ := h3 j cs w hc hw
  exact ⟨u, e, s.low hl⟩
theorem OwnC.form {h : Heap} {own : Nat → Tag} {lo : Nat} {v : CV} {l : List (List (Int × Int))} (o : OwnC h own lo v l) : ∃ p n c x, v = .slice p n c x := by
  obtain ⟨css, h1, _⟩ := o
  exact h1.form
theorem OwnL.form {h : Heap} {own : Nat → Tag} {lo : Nat} {v : CV} {l : List LinkD} (o : OwnL h own lo v l) : ∃ p n c x, v = .slice p n c x := by
  obtain ⟨css, h1, _⟩ := o
  exact h1.form

theorem ownNet_w {h : Heap} {tm : Tm} {Q : R → Prop} {hz : Int} {vc vl : CV} {cl : List (List (Int × Int))} {l : List LinkD} (fr : Fresh h) (sc : SlC h vc cl) (sl : SlL h vl l) (hmc : ∀ w ∈ cl, w.length ≤ 1048576) (hnc : cl.length ≤ 1048576) (hm : ∀ L ∈ l, L.opn.length ≤ 1048576 ∧ L.closed.length ≤ 1048576) (hn : l.length ≤ 1048576)
    (q : ∀ h' own vc' vl', Ext h h' → OwnC h' own h.next vc' cl → OwnL h' own h.next vl' l → Q (.val (.agg [.int .i64 hz, vc', vl']) h')) : W E1 (.call (.fn 10 [] []) [.agg [.int .i64 hz, vc, vl]]) tm h Q := by
  refine W.fn (s := fnOf Try.f10) rfl rfl rfl rfl ?_
  repeat (first | (with_reducible first | refine W.seq ?_ | refine W.block ?_ | refine W.region ?_ | refine W.draws ?_ | refine W.skip ?_ | refine W.exit ?_ | refine W.ret ?_ | refine SeqQ.normal ?_ | refine SeqQ.exit ?_ | refine SeqQ.ret ?_ | refine BlockQ.exit ?_ | refine BlockQ.normal ?_ | refine BlockQ.ret ?_ | refine BlockQ.other rfl ?_ | refine LoopQ.exit ?_ | refine CallQ.val ?_ | refine CutQ.normal ?_ | refine LoopQ.ret ?_) | refine W.offn rfl rfl ?_ | refine W.opn rfl op_lss rfl ?_ | refine W.opn rfl op_leq rfl ?_ | refine W.opn rfl op_eql rfl ?_ | refine W.opn rfl op_neq rfl ?_ | refine W.opn rfl (op_sub (by omega) (by omega)) rfl ?_ | refine W.opn rfl (op_add (by omega) (by omega)) rfl ?_ | refine W.opn (v := .int _ _) rfl rfl rfl ?_ | refine W.opn (v := .ptr _) rfl rfl rfl ?_ | refine W.opn (v := .bool _) rfl rfl rfl ?_ | refine W.opn (v := .slice _ _ _ _) rfl rfl rfl ?_ | refine W.opn (v := .agg _) rfl rfl rfl ?_ | refine W.opn (v := .tup _) rfl rfl rfl ?_ | refine W.opn rfl rfl rfl ?_ | refine W.offn rfl rfl ?_ | refine W.nil ?_)
  obtain ⟨H, hH⟩ : ∃ H, H = (h.new (.cells [.int .i64 hz, vc, vl] false)).new (.cells [.int .i64 0, .slice none 0 0 0, .slice none 0 0 0] false) := ⟨_, rfl⟩
  have g1 : H.get h.next = some (.cells [.int .i64 hz, vc, vl] false) := by rw [hH]; exact new_old (Nat.lt_succ_self _) (new_same _ _)
  have g2 : H.get (h.next + 1) = some (.cells [.int .i64 0, .slice none 0 0 0, .slice none 0 0 0] false) := by rw [hH]; exact new_same (h.new _) _
  have X : Ext h H := by rw [hH]; exact (Ext.new _ _).trans (Ext.new _ _)
  have n1 : H.next = h.next + 2 := by rw [hH]; rfl
  have fH : Fresh H := X.fr fr
  refine cast (congrArg (fun H => W _ _ _ H _) hH) ?_
  clear hH
  have ds := DX.start fH
  repeat (first | refine W.doffn rfl rfl ?_ | refine W.dopn rfl rfl op_lss rfl ?_ | refine W.dopn rfl rfl op_leq rfl ?_ | refine W.dopn rfl rfl op_eql rfl ?_ | refine W.dopn rfl rfl op_neq rfl ?_ | refine W.dopn rfl rfl (op_sub (by omega) (by omega)) rfl ?_ | refine W.dopn rfl rfl (op_add (by omega) (by omega)) rfl ?_ | refine W.dopn (v := .int _ _) rfl rfl rfl rfl ?_ | refine W.dopn (v := .ptr _) rfl rfl rfl rfl ?_ | refine W.dopn (v := .bool _) rfl rfl rfl rfl ?_ | refine W.dopn (v := .slice _ _ _ _) rfl rfl rfl rfl ?_ | refine W.dopn (v := .agg _) rfl rfl rfl rfl ?_ | refine W.dopn (v := .tup _) rfl rfl rfl rfl ?_ | refine W.dopn rfl rfl rfl rfl ?_ | refine W.doffn rfl rfl ?_ | refine W.dnil ?_)
  refine W.dldZ ds rfl rfl rfl g1 (by omega) rfl (v := .int .i64 hz) rfl fun r1 h1 ds s1 => ?_
  repeat (first | refine W.doffn rfl rfl ?_ | refine W.dopn rfl rfl op_lss rfl ?_ | refine W.dopn rfl rfl op_leq rfl ?_ | refine W.dopn rfl rfl op_eql rfl ?_ | refine W.dopn rfl rfl op_neq rfl ?_ | refine W.dopn rfl rfl (op_sub (by omega) (by omega)) rfl ?_ | refine W.dopn rfl rfl (op_add (by omega) (by omega)) rfl ?_ | refine W.dopn (v := .int _ _) rfl rfl rfl rfl ?_ | refine W.dopn (v := .ptr _) rfl rfl rfl rfl ?_ | refine W.dopn (v := .bool _) rfl rfl rfl rfl ?_ | refine W.dopn (v := .slice _ _ _ _) rfl rfl rfl rfl ?_ | refine W.dopn (v := .agg _) rfl rfl rfl rfl ?_ | refine W.dopn (v := .tup _) rfl rfl rfl rfl ?_ | refine W.dopn rfl rfl rfl rfl ?_ | refine W.doffn rfl rfl ?_ | refine W.dnil ?_)
  refine W.dldZ ds rfl rfl rfl g1 (by omega) rfl (v := vc) rfl fun r2 h2 ds s2 => ?_
  repeat (first | refine W.doffn rfl rfl ?_ | refine W.dopn rfl rfl op_lss rfl ?_ | refine W.dopn rfl rfl op_leq rfl ?_ | refine W.dopn rfl rfl op_eql rfl ?_ | refine W.dopn rfl rfl op_neq rfl ?_ | refine W.dopn rfl rfl (op_sub (by omega) (by omega)) rfl ?_ | refine W.dopn rfl rfl (op_add (by omega) (by omega)) rfl ?_ | refine W.dopn (v := .int _ _) rfl rfl rfl rfl ?_ | refine W.dopn (v := .ptr _) rfl rfl rfl rfl ?_ | refine W.dopn (v := .bool _) rfl rfl rfl rfl ?_ | refine W.dopn (v := .slice _ _ _ _) rfl rfl rfl rfl ?_ | refine W.dopn (v := .agg _) rfl rfl rfl rfl ?_ | refine W.dopn (v := .tup _) rfl rfl rfl rfl ?_ | refine W.dopn rfl rfl rfl rfl ?_ | refine W.doffn rfl rfl ?_ | refine W.dnil ?_)
  have x2 := ds.x
  refine W.dcallZ ds rfl rfl rfl rfl (ownLists_w (updT (updT (fun _ => (5, 0)) h.next (7, 0)) (h.next + 1) (6, 0)) (sc.ext (X.trans x2)) hmc hnc fun vc' h3 own3 x3 t3 oC => DZ.val x3 fun r4 h4 ds s4 => ?_)
  obtain ⟨p, n, c, x, e1⟩ := oC.form
  cases e1
  repeat (first | refine W.doffn rfl rfl ?_ | refine W.dopn rfl rfl op_lss rfl ?_ | refine W.dopn rfl rfl op_leq rfl ?_ | refine W.dopn rfl rfl op_eql rfl ?_ | refine W.dopn rfl rfl op_neq rfl ?_ | refine W.dopn rfl rfl (op_sub (by omega) (by omega)) rfl ?_ | refine W.dopn rfl rfl (op_add (by omega) (by omega)) rfl ?_ | refine W.dopn (v := .int _ _) rfl rfl rfl rfl ?_ | refine W.dopn (v := .ptr _) rfl rfl rfl rfl ?_ | refine W.dopn (v := .bool _) rfl rfl rfl rfl ?_ | refine W.dopn (v := .slice _ _ _ _) rfl rfl rfl rfl ?_ | refine W.dopn (v := .agg _) rfl rfl rfl rfl ?_ | refine W.dopn (v := .tup _) rfl rfl rfl rfl ?_ | refine W.dopn rfl rfl rfl rfl ?_ | refine W.doffn rfl rfl ?_ | refine W.dnil ?_)
  refine W.dalZ ds rfl rfl rfl fun r5 h5 ds x5 n5 g5 => ?_
  repeat (first | refine W.doffn rfl rfl ?_ | refine W.dopn rfl rfl op_lss rfl ?_ | refine W.dopn rfl rfl op_leq rfl ?_ | refine W.dopn rfl rfl op_eql rfl ?_ | refine W.dopn rfl rfl op_neq rfl ?_ | refine W.dopn rfl rfl (op_sub (by omega) (by omega)) rfl ?_ | refine W.dopn rfl rfl (op_add (by omega) (by omega)) rfl ?_ | refine W.dopn (v := .int _ _) rfl rfl rfl rfl ?_ | refine W.dopn (v := .ptr _) rfl rfl rfl rfl ?_ | refine W.dopn (v := .bool _) rfl rfl rfl rfl ?_ | refine W.dopn (v := .slice _ _ _ _) rfl rfl rfl rfl ?_ | refine W.dopn (v := .agg _) rfl rfl rfl rfl ?_ | refine W.dopn (v := .tup _) rfl rfl rfl rfl ?_ | refine W.dopn rfl rfl rfl rfl ?_ | refine W.doffn rfl rfl ?_ | refine W.dnil ?_)
  refine W.dst (vs := [.int .i64 hz, .slice p n c x, .slice none 0 0 0]) (cs' := [.int .i64 hz, .slice p n c x, .slice none 0 0 0]) ds.hri rfl rfl rfl rfl rfl rfl rfl g5 rfl fun r6 h6 hr6 s6 => ?_
  have e2 : h2.next = h.next + 2 := by rw [s2.next, s1.next, n1]
  have e3 := x3.next
  have e4 : h4.next = h3.next := s4.next
  have e6 : h6.next = h4.next + 1 := s6.next.trans n5
  have x24 := x3.trans s4.ext
  obtain ⟨q3, hq3⟩ : ∃ q3, q3 = h4.next := ⟨_, rfl⟩
  have x46 : Ext h4 h6 := Ext.store (i := h4.next) x5 s6.next (fun k hk => by rw [s6.get, Heap.get_put, if_neg (Ne.symm hk)]) (Nat.le_refl _) (by omega)
  have X6 : Ext H h6 := (x2.trans x24).trans x46
  have gq3 : h6.get q3 = some (.cells [.int .i64 hz, .slice p n c x, .slice none 0 0 0] false) := by rw [s6.get, hq3, put_same]
  obtain ⟨own6, ho6⟩ : ∃ own6, own6 = updT own3 q3 (8, 0) := ⟨_, rfl⟩
  have t6 : Tags h4.next own3 own6 := by rw [ho6, hq3]; exact Tags.refl.upd (Nat.le_refl _)
  have oC6 : OwnC h6 own6 h.next (.slice p n c x) cl := (((oC.low (by omega)).ext s4.ext).tags t6).ext x46
  have p6 : own6 h.next = (7, 0) ∧ own6 (h.next + 1) = (6, 0) ∧ own6 q3 = (8, 0) := by
    refine ⟨?_, ?_, by rw [ho6]; exact updT_same⟩
    · rw [t6 _ (by omega), t3 _ (by omega), updT_old (Nat.lt_succ_self _)]; exact updT_same
    · rw [t6 _ (by omega), t3 _ (by omega)]; exact updT_same
  have q6 : h.next + 2 ≤ q3 ∧ q3 < h6.next := by omega
  clear ho6 t6 oC t3 s6 hr6 x5 n5 g5 ds s4 s2 s1 x3 x24 x46
  repeat (first | refine W.doffn rfl rfl ?_ | refine W.dopn rfl rfl op_lss rfl ?_ | refine W.dopn rfl rfl op_leq rfl ?_ | refine W.dopn rfl rfl op_eql rfl ?_ | refine W.dopn rfl rfl op_neq rfl ?_ | refine W.dopn rfl rfl (op_sub (by omega) (by omega)) rfl ?_ | refine W.dopn rfl rfl (op_add (by omega) (by omega)) rfl ?_ | refine W.dopn (v := .int _ _) rfl rfl rfl rfl ?_ | refine W.dopn (v := .ptr _) rfl rfl rfl rfl ?_ | refine W.dopn (v := .bool _) rfl rfl rfl rfl ?_ | refine W.dopn (v := .slice _ _ _ _) rfl rfl rfl rfl ?_ | refine W.dopn (v := .agg _) rfl rfl rfl rfl ?_ | refine W.dopn (v := .tup _) rfl rfl rfl rfl ?_ | refine W.dopn rfl rfl rfl rfl ?_ | refine W.doffn rfl rfl ?_ | refine W.dnil ?_)
  refine W.anyTm (fun tm => tm.look 1 = .ptr (some (h.next, 0)) ∧ tm.look 2 = .ptr (some (h.next + 1, 0)) ∧ tm.look 3 = .ptr (some (h4.next, 0))) ⟨rfl, rfl, rfl⟩ ?_
  rintro tm ⟨w1, w2, w3⟩
  rw [← hq3] at w3
  obtain ⟨T, rfl⟩ : ∃ T : Tm, tm = (((T.set 1 (some (.ptr (some (h.next, 0))))).set 2 (some (.ptr (some (h.next + 1, 0))))).set 3 (some (.ptr (some (q3, 0))))) := ⟨tm, (show tm = (((tm.set 1 (some (tm.look 1))).set 2 (some (tm.look 2))).set 3 (some (tm.look 3))) by rfl).trans (by rw [w1, w2, w3])⟩
  clear w1 w2 w3
  repeat (first | (with_reducible first | refine W.seq ?_ | refine W.block ?_ | refine W.region ?_ | refine W.draws ?_ | refine W.skip ?_ | refine W.exit ?_ | refine W.ret ?_ | refine SeqQ.normal ?_ | refine SeqQ.exit ?_ | refine SeqQ.ret ?_ | refine BlockQ.exit ?_ | refine BlockQ.normal ?_ | refine BlockQ.ret ?_ | refine BlockQ.other rfl ?_ | refine LoopQ.exit ?_ | refine CallQ.val ?_ | refine CutQ.normal ?_ | refine LoopQ.ret ?_) | refine W.offn rfl rfl ?_ | refine W.opn rfl op_lss rfl ?_ | refine W.opn rfl op_leq rfl ?_ | refine W.opn rfl op_eql rfl ?_ | refine W.opn rfl op_neq rfl ?_ | refine W.opn rfl (op_sub (by omega) (by omega)) rfl ?_ | refine W.opn rfl (op_add (by omega) (by omega)) rfl ?_ | refine W.opn (v := .int _ _) rfl rfl rfl ?_ | refine W.opn (v := .ptr _) rfl rfl rfl ?_ | refine W.opn (v := .bool _) rfl rfl rfl ?_ | refine W.opn (v := .slice _ _ _ _) rfl rfl rfl ?_ | refine W.opn (v := .agg _) rfl rfl rfl ?_ | refine W.opn (v := .tup _) rfl rfl rfl ?_ | refine W.opn rfl rfl rfl ?_ | refine W.offn rfl rfl ?_ | refine W.nil ?_)
  have hc : (Int.ofNat l.length) = (l.length : Int) := rfl
  refine W.loop (σ := Nat) (fun k tm h' => tm.look 1 = .ptr (some (h.next, 0)) ∧ tm.look 2 = .ptr (some (h.next + 1, 0)) ∧ tm.look 3 = .ptr (some (q3, 0)) ∧ tm.look 4 = .int .i64 (k : Int) ∧ (∃ vo own', OwnL h' own' h.next vo (l.take k) ∧ OwnC h' own' h.next (.slice p n c x) cl ∧ h'.get q3 = some (.cells [.int .i64 hz, .slice p n c x, vo] false) ∧ h'.get h.next = some (.cells [.int .i64 hz, vc, vl] false) ∧ h'.get (h.next + 1) = some (.cells [.int .i64 0, .slice none 0 0 0, .slice none 0 0 0] false) ∧ own' h.next = (7, 0) ∧ own' (h.next + 1) = (6, 0) ∧ own' q3 = (8, 0)) ∧ k ≤ l.length ∧ Ext h h' ∧ q3 < h'.next) (fun k => l.length - k) ?_ (s := 0)
    ⟨rfl, rfl, rfl, rfl, ⟨_, own6, ⟨[], OwnT.nil, rfl, fun j cs w hc => by simp at hc⟩, oC6, gq3, (X6.old _ (by omega)).trans g1, (X6.old _ (by omega)).trans g2, p6⟩, Nat.zero_le _, X.trans X6, q6.2⟩
  clear gq3 oC6 p6 g1 g2 X6
  rintro k tm h' ⟨w1, w2, w3, w4, ⟨vo, own', oL, oC, gq, gb, gz, tb, tz, tq⟩, hk, Y, hq⟩
  obtain ⟨T, rfl⟩ : ∃ T : Tm, tm = ((((T.set 1 (some (.ptr (some (h.next, 0))))).set 2 (some (.ptr (some (h.next + 1, 0))))).set 3 (some (.ptr (some (q3, 0))))).set 4 (some (.int .i64 (k : Int)))) := ⟨tm, (show tm = ((((tm.set 1 (some (tm.look 1))).set 2 (some (tm.look 2))).set 3 (some (tm.look 3))).set 4 (some (tm.look 4))) by rfl).trans (by rw [w1, w2, w3, w4])⟩
  clear w1 w2 w3 w4
  repeat (first | (with_reducible first | refine W.seq ?_ | refine W.block ?_ | refine W.region ?_ | refine W.draws ?_ | refine W.skip ?_ | refine W.exit ?_ | refine W.ret ?_ | refine SeqQ.normal ?_ | refine SeqQ.exit ?_ | refine SeqQ.ret ?_ | refine BlockQ.exit ?_ | refine BlockQ.normal ?_ | refine BlockQ.ret ?_ | refine BlockQ.other rfl ?_ | refine LoopQ.exit ?_ | refine CallQ.val ?_ | refine CutQ.normal ?_ | refine LoopQ.ret ?_) | refine W.offn rfl rfl ?_ | refine W.opn rfl op_lss rfl ?_ | refine W.opn rfl op_leq rfl ?_ | refine W.opn rfl op_eql rfl ?_ | refine W.opn rfl op_neq rfl ?_ | refine W.opn rfl (op_sub (by omega) (by omega)) rfl ?_ | refine W.opn rfl (op_add (by omega) (by omega)) rfl ?_ | refine W.opn (v := .int _ _) rfl rfl rfl ?_ | refine W.opn (v := .ptr _) rfl rfl rfl ?_ | refine W.opn (v := .bool _) rfl rfl rfl ?_ | refine W.opn (v := .slice _ _ _ _) rfl rfl rfl ?_ | refine W.opn (v := .agg _) rfl rfl rfl ?_ | refine W.opn (v := .tup _) rfl rfl rfl ?_ | refine W.opn rfl rfl rfl ?_ | refine W.offn rfl rfl ?_ | refine W.nil ?_)
  refine W.ld rfl rfl rfl gb rfl rfl ?_
  refine W.ln sl.lenOf rfl rfl rfl rfl rfl rfl rfl rfl ?_
  repeat (first | (with_reducible first | refine W.seq ?_ | refine W.block ?_ | refine W.region ?_ | refine W.draws ?_ | refine W.skip ?_ | refine W.exit ?_ | refine W.ret ?_ | refine SeqQ.normal ?_ | refine SeqQ.exit ?_ | refine SeqQ.ret ?_ | refine BlockQ.exit ?_ | refine BlockQ.normal ?_ | refine BlockQ.ret ?_ | refine BlockQ.other rfl ?_ | refine LoopQ.exit ?_ | refine CallQ.val ?_ | refine CutQ.normal ?_ | refine LoopQ.ret ?_) | refine W.offn rfl rfl ?_ | refine W.opn rfl op_lss rfl ?_ | refine W.opn rfl op_leq rfl ?_ | refine W.opn rfl op_eql rfl ?_ | refine W.opn rfl op_neq rfl ?_ | refine W.opn rfl (op_sub (by omega) (by omega)) rfl ?_ | refine W.opn rfl (op_add (by omega) (by omega)) rfl ?_ | refine W.opn (v := .int _ _) rfl rfl rfl ?_ | refine W.opn (v := .ptr _) rfl rfl rfl ?_ | refine W.opn (v := .bool _) rfl rfl rfl ?_ | refine W.opn (v := .slice _ _ _ _) rfl rfl rfl ?_ | refine W.opn (v := .agg _) rfl rfl rfl ?_ | refine W.opn (v := .tup _) rfl rfl rfl ?_ | refine W.opn rfl rfl rfl ?_ | refine W.offn rfl rfl ?_ | refine W.nil ?_)
  refine W.cond rfl (fun hc => ?_) (fun hc => ?_)
  rotate_left
  · have hkn : k = l.length := by
      have := of_decide_eq_false hc
      omega
    refine W.anyTm (fun tm => tm.look 1 = .ptr (some (h.next, 0)) ∧ tm.look 2 = .ptr (some (h.next + 1, 0)) ∧ tm.look 3 = .ptr (some (q3, 0))) ⟨rfl, rfl, rfl⟩ ?_
    rintro tm ⟨w1, w2, w3⟩
    obtain ⟨T, rfl⟩ : ∃ T : Tm, tm = (((T.set 1 (some (.ptr (some (h.next, 0))))).set 2 (some (.ptr (some (h.next + 1, 0))))).set 3 (some (.ptr (some (q3, 0))))) := ⟨tm, (show tm = (((tm.set 1 (some (tm.look 1))).set 2 (some (tm.look 2))).set 3 (some (tm.look 3))) by rfl).trans (by rw [w1, w2, w3])⟩
    clear w1 w2 w3
    rw [hkn, List.take_length] at oL
    obtain ⟨p', n', c', x', e⟩ := oL.form
    cases e
    repeat (first | (with_reducible first | refine W.seq ?_ | refine W.block ?_ | refine W.region ?_ | refine W.draws ?_ | refine W.skip ?_ | refine W.exit ?_ | refine W.ret ?_ | refine SeqQ.normal ?_ | refine SeqQ.exit ?_ | refine SeqQ.ret ?_ | refine BlockQ.exit ?_ | refine BlockQ.normal ?_ | refine BlockQ.ret ?_ | refine BlockQ.other rfl ?_ | refine LoopQ.exit ?_ | refine CallQ.val ?_ | refine CutQ.normal ?_ | refine LoopQ.ret ?_) | refine W.offn rfl rfl ?_ | refine W.opn rfl op_lss rfl ?_ | refine W.opn rfl op_leq rfl ?_ | refine W.opn rfl op_eql rfl ?_ | refine W.opn rfl op_neq rfl ?_ | refine W.opn rfl (op_sub (by omega) (by omega)) rfl ?_ | refine W.opn rfl (op_add (by omega) (by omega)) rfl ?_ | refine W.opn (v := .int _ _) rfl rfl rfl ?_ | refine W.opn (v := .ptr _) rfl rfl rfl ?_ | refine W.opn (v := .bool _) rfl rfl rfl ?_ | refine W.opn (v := .slice _ _ _ _) rfl rfl rfl ?_ | refine W.opn (v := .agg _) rfl rfl rfl ?_ | refine W.opn (v := .tup _) rfl rfl rfl ?_ | refine W.opn rfl rfl rfl ?_ | refine W.offn rfl rfl ?_ | refine W.nil ?_)
    refine W.ld rfl rfl rfl gq rfl rfl ?_
    repeat (first | (with_reducible first | refine W.seq ?_ | refine W.block ?_ | refine W.region ?_ | refine W.draws ?_ | refine W.skip ?_ | refine W.exit ?_ | refine W.ret ?_ | refine SeqQ.normal ?_ | refine SeqQ.exit ?_ | refine SeqQ.ret ?_ | refine BlockQ.exit ?_ | refine BlockQ.normal ?_ | refine BlockQ.ret ?_ | refine BlockQ.other rfl ?_ | refine LoopQ.exit ?_ | refine CallQ.val ?_ | refine CutQ.normal ?_ | refine LoopQ.ret ?_) | refine W.offn rfl rfl ?_ | refine W.opn rfl op_lss rfl ?_ | refine W.opn rfl op_leq rfl ?_ | refine W.opn rfl op_eql rfl ?_ | refine W.opn rfl op_neq rfl ?_ | refine W.opn rfl (op_sub (by omega) (by omega)) rfl ?_ | refine W.opn rfl (op_add (by omega) (by omega)) rfl ?_ | refine W.opn (v := .int _ _) rfl rfl rfl ?_ | refine W.opn (v := .ptr _) rfl rfl rfl ?_ | refine W.opn (v := .bool _) rfl rfl rfl ?_ | refine W.opn (v := .slice _ _ _ _) rfl rfl rfl ?_ | refine W.opn (v := .agg _) rfl rfl rfl ?_ | refine W.opn (v := .tup _) rfl rfl rfl ?_ | refine W.opn rfl rfl rfl ?_ | refine W.offn rfl rfl ?_ | refine W.nil ?_)
    refine W.stn rfl rfl rfl rfl rfl rfl gz rfl fun K nxK gK kpK => ?_
    have O : Only h' K own' h.next (6, 0) := only_of tz (by omega) nxK (by omega) kpK
    repeat (first | (with_reducible first | refine W.seq ?_ | refine W.block ?_ | refine W.region ?_ | refine W.draws ?_ | refine W.skip ?_ | refine W.exit ?_ | refine W.ret ?_ | refine SeqQ.normal ?_ | refine SeqQ.exit ?_ | refine SeqQ.ret ?_ | refine BlockQ.exit ?_ | refine BlockQ.normal ?_ | refine BlockQ.ret ?_ | refine BlockQ.other rfl ?_ | refine LoopQ.exit ?_ | refine CallQ.val ?_ | refine CutQ.normal ?_ | refine LoopQ.ret ?_) | refine W.offn rfl rfl ?_ | refine W.opn rfl op_lss rfl ?_ | refine W.opn rfl op_leq rfl ?_ | refine W.opn rfl op_eql rfl ?_ | refine W.opn rfl op_neq rfl ?_ | refine W.opn rfl (op_sub (by omega) (by omega)) rfl ?_ | refine W.opn rfl (op_add (by omega) (by omega)) rfl ?_ | refine W.opn (v := .int _ _) rfl rfl rfl ?_ | refine W.opn (v := .ptr _) rfl rfl rfl ?_ | refine W.opn (v := .bool _) rfl rfl rfl ?_ | refine W.opn (v := .slice _ _ _ _) rfl rfl rfl ?_ | refine W.opn (v := .agg _) rfl rfl rfl ?_ | refine W.opn (v := .tup _) rfl rfl rfl ?_ | refine W.opn rfl rfl rfl ?_ | refine W.offn rfl rfl ?_ | refine W.nil ?_)
    refine BodyQ.cell1 rfl rfl gK rfl rfl ?_
    exact q K own' _ _ (O.ext Y (Nat.le_refl _)) (oC.keep O (by decide) (by decide) (by decide)) (oL.keep O (by decide) (by decide) (by decide) (by decide))
  have hk2 : k < l.length := by
    have := of_decide_eq_true hc
    omega
  obtain ⟨il, ol, ccl, xl, csl, rol, e', L, evl, hil1, hgl, hL, hcutl, hrL⟩ := sl.at hk2
  obtain ⟨va, vb, rfl, sa, sb⟩ := hrL
  have hmL := hm L (List.mem_of_getElem? hL)
  cases evl
  refine W.anyTm (fun tm => tm.look 1 = .ptr (some (h.next, 0)) ∧ tm.look 2 = .ptr (some (h.next + 1, 0)) ∧ tm.look 3 = .ptr (some (q3, 0)) ∧ tm.look 4 = .int .i64 (k : Int)) ⟨rfl, rfl, rfl, rfl⟩ ?_
  rintro tm ⟨w1, w2, w3, w4⟩
  obtain ⟨T, rfl⟩ : ∃ T : Tm, tm = ((((T.set 1 (some (.ptr (some (h.next, 0))))).set 2 (some (.ptr (some (h.next + 1, 0))))).set 3 (some (.ptr (some (q3, 0))))).set 4 (some (.int .i64 (k : Int)))) := ⟨tm, (show tm = ((((tm.set 1 (some (tm.look 1))).set 2 (some (tm.look 2))).set 3 (some (tm.look 3))).set 4 (some (tm.look 4))) by rfl).trans (by rw [w1, w2, w3, w4])⟩
  clear w1 w2 w3 w4
  repeat (first | (with_reducible first | refine W.seq ?_ | refine W.block ?_ | refine W.region ?_ | refine W.draws ?_ | refine W.skip ?_ | refine W.exit ?_ | refine W.ret ?_ | refine SeqQ.normal ?_ | refine SeqQ.exit ?_ | refine SeqQ.ret ?_ | refine BlockQ.exit ?_ | refine BlockQ.normal ?_ | refine BlockQ.ret ?_ | refine BlockQ.other rfl ?_ | refine LoopQ.exit ?_ | refine CallQ.val ?_ | refine CutQ.normal ?_ | refine LoopQ.ret ?_) | refine W.offn rfl rfl ?_ | refine W.opn rfl op_lss rfl ?_ | refine W.opn rfl op_leq rfl ?_ | refine W.opn rfl op_eql rfl ?_ | refine W.opn rfl op_neq rfl ?_ | refine W.opn rfl (op_sub (by omega) (by omega)) rfl ?_ | refine W.opn rfl (op_add (by omega) (by omega)) rfl ?_ | refine W.opn (v := .int _ _) rfl rfl rfl ?_ | refine W.opn (v := .ptr _) rfl rfl rfl ?_ | refine W.opn (v := .bool _) rfl rfl rfl ?_ | refine W.opn (v := .slice _ _ _ _) rfl rfl rfl ?_ | refine W.opn (v := .agg _) rfl rfl rfl ?_ | refine W.opn (v := .tup _) rfl rfl rfl ?_ | refine W.opn rfl rfl rfl ?_ | refine W.offn rfl rfl ?_ | refine W.nil ?_)
  refine W.ld rfl rfl rfl gb rfl rfl ?_
  repeat (first | (with_reducible first | refine W.seq ?_ | refine W.block ?_ | refine W.region ?_ | refine W.draws ?_ | refine W.skip ?_ | refine W.exit ?_ | refine W.ret ?_ | refine SeqQ.normal ?_ | refine SeqQ.exit ?_ | refine SeqQ.ret ?_ | refine BlockQ.exit ?_ | refine BlockQ.normal ?_ | refine BlockQ.ret ?_ | refine BlockQ.other rfl ?_ | refine LoopQ.exit ?_ | refine CallQ.val ?_ | refine CutQ.normal ?_ | refine LoopQ.ret ?_) | refine W.offn rfl rfl ?_ | refine W.opn rfl op_lss rfl ?_ | refine W.opn rfl op_leq rfl ?_ | refine W.opn rfl op_eql rfl ?_ | refine W.opn rfl op_neq rfl ?_ | refine W.opn rfl (op_sub (by omega) (by omega)) rfl ?_ | refine W.opn rfl (op_add (by omega) (by omega)) rfl ?_ | refine W.opn (v := .int _ _) rfl rfl rfl ?_ | refine W.opn (v := .ptr _) rfl rfl rfl ?_ | refine W.opn (v := .bool _) rfl rfl rfl ?_ | refine W.opn (v := .slice _ _ _ _) rfl rfl rfl ?_ | refine W.opn (v := .agg _) rfl rfl rfl ?_ | refine W.opn (v := .tup _) rfl rfl rfl ?_ | refine W.opn rfl rfl rfl ?_ | refine W.offn rfl rfl ?_ | refine W.nil ?_)
  refine W.ix rfl rfl rfl rfl rfl rfl rfl (place_of (j := k) rfl hk2) ?_
  refine W.ldX Y rfl rfl rfl hgl hil1 rfl (v := .agg _) (by show (cut csl (ol + k * 7) 7).map CV.agg = _; rw [hcutl]; rfl) ?_
  repeat (first | refine W.offn rfl rfl ?_ | refine W.opn rfl op_lss rfl ?_ | refine W.opn rfl op_leq rfl ?_ | refine W.opn rfl op_eql rfl ?_ | refine W.opn rfl op_neq rfl ?_ | refine W.opn rfl (op_sub (by omega) (by omega)) rfl ?_ | refine W.opn rfl (op_add (by omega) (by omega)) rfl ?_ | refine W.opn (v := .int _ _) rfl rfl rfl ?_ | refine W.opn (v := .ptr _) rfl rfl rfl ?_ | refine W.opn (v := .bool _) rfl rfl rfl ?_ | refine W.opn (v := .slice _ _ _ _) rfl rfl rfl ?_ | refine W.opn (v := .agg _) rfl rfl rfl ?_ | refine W.opn (v := .tup _) rfl rfl rfl ?_ | refine W.opn rfl rfl rfl ?_ | refine W.offn rfl rfl ?_)
  refine W.stn (cs' := [.int .i64 L.a, .int .i64 L.b, .int .i64 L.len, .bool L.door, .int .i64 L.of, va, vb]) rfl rfl rfl rfl rfl rfl (new_same _ _) rfl fun K nxK gK kpK => ?_
  have xK : Ext h' K := Ext.store (Ext.new _ _) nxK kpK (Nat.le_refl _) (Nat.lt_succ_self _)
  have nK : K.next = h'.next + 1 := nxK
  clear nxK kpK
  obtain ⟨q5, hq5⟩ : ∃ q5, q5 = h'.next := ⟨_, rfl⟩
  obtain ⟨owa, howa⟩ : ∃ owa, owa = updT own' q5 (5, 0) := ⟨_, rfl⟩
  have ta : Tags h'.next own' owa := by rw [howa, hq5]; exact Tags.refl.upd (Nat.le_refl _)
  have ta5 : owa q5 = (5, 0) := by rw [howa]; exact updT_same
  have q5K : q5 < K.next := by omega
  have hqK : q3 < K.next := by omega
  rw [← hq5] at gK
  have fK : Fresh K := (Y.trans xK).fr fr
  have YK : Ext h K := Y.trans xK
  have qK : h.next + 1 < K.next := by omega
  have lK : h.next ≤ K.next := by omega
  have l5 : h.next ≤ q5 := by omega
  have gbK := (xK.old _ (by omega)).trans gb
  have gzK := (xK.old _ (by omega)).trans gz
  have gqK := (xK.old _ hq).trans gq
  have oLK := (oL.tags ta).ext xK
  have oCK := (oC.tags ta).ext xK
  have tbK := (ta _ (by omega)).trans tb
  have tzK := (ta _ (by omega)).trans tz
  have tqK := (ta _ hq).trans tq
  have n35 : q3 ≠ q5 := by omega
  clear howa ta oL oC gb gz gq tb tz tq
  refine W.anyTm (fun tm => tm.look 1 = .ptr (some (h.next, 0)) ∧ tm.look 2 = .ptr (some (h.next + 1, 0)) ∧ tm.look 3 = .ptr (some (q3, 0)) ∧ tm.look 4 = .int .i64 (k : Int) ∧ tm.look 5 = .ptr (some (h'.next, 0))) ⟨rfl, rfl, rfl, rfl, rfl⟩ ?_
  rintro tm ⟨w1, w2, w3, w4, w5⟩
  rw [← hq5] at w5
  obtain ⟨T, rfl⟩ : ∃ T : Tm, tm = (((((T.set 1 (some (.ptr (some (h.next, 0))))).set 2 (some (.ptr (some (h.next + 1, 0))))).set 3 (some (.ptr (some (q3, 0))))).set 4 (some (.int .i64 (k : Int)))).set 5 (some (.ptr (some (q5, 0))))) := ⟨tm, (show tm = (((((tm.set 1 (some (tm.look 1))).set 2 (some (tm.look 2))).set 3 (some (tm.look 3))).set 4 (some (tm.look 4))).set 5 (some (tm.look 5))) by rfl).trans (by rw [w1, w2, w3, w4, w5])⟩
  clear w1 w2 w3 w4 w5
  repeat (first | (with_reducible first | refine W.seq ?_ | refine W.block ?_ | refine W.region ?_ | refine W.draws ?_ | refine W.skip ?_ | refine W.exit ?_ | refine W.ret ?_ | refine SeqQ.normal ?_ | refine SeqQ.exit ?_ | refine SeqQ.ret ?_ | refine BlockQ.exit ?_ | refine BlockQ.normal ?_ | refine BlockQ.ret ?_ | refine BlockQ.other rfl ?_ | refine LoopQ.exit ?_ | refine CallQ.val ?_ | refine CutQ.normal ?_ | refine LoopQ.ret ?_) | refine W.offn rfl rfl ?_ | refine W.opn rfl op_lss rfl ?_ | refine W.opn rfl op_leq rfl ?_ | refine W.opn rfl op_eql rfl ?_ | refine W.opn rfl op_neq rfl ?_ | refine W.opn rfl (op_sub (by omega) (by omega)) rfl ?_ | refine W.opn rfl (op_add (by omega) (by omega)) rfl ?_ | refine W.opn (v := .int _ _) rfl rfl rfl ?_ | refine W.opn (v := .ptr _) rfl rfl rfl ?_ | refine W.opn (v := .bool _) rfl rfl rfl ?_ | refine W.opn (v := .slice _ _ _ _) rfl rfl rfl ?_ | refine W.opn (v := .agg _) rfl rfl rfl ?_ | refine W.opn (v := .tup _) rfl rfl rfl ?_ | refine W.opn rfl rfl rfl ?_ | refine W.offn rfl rfl ?_ | refine W.nil ?_)
  have ds := DX.start fK
  repeat (first | refine W.doffn rfl rfl ?_ | refine W.dopn rfl rfl op_lss rfl ?_ | refine W.dopn rfl rfl op_leq rfl ?_ | refine W.dopn rfl rfl op_eql rfl ?_ | refine W.dopn rfl rfl op_neq rfl ?_ | refine W.dopn rfl rfl (op_sub (by omega) (by omega)) rfl ?_ | refine W.dopn rfl rfl (op_add (by omega) (by omega)) rfl ?_ | refine W.dopn (v := .int _ _) rfl rfl rfl rfl ?_ | refine W.dopn (v := .ptr _) rfl rfl rfl rfl ?_ | refine W.dopn (v := .bool _) rfl rfl rfl rfl ?_ | refine W.dopn (v := .slice _ _ _ _) rfl rfl rfl rfl ?_ | refine W.dopn (v := .agg _) rfl rfl rfl rfl ?_ | refine W.dopn (v := .tup _) rfl rfl rfl rfl ?_ | refine W.dopn rfl rfl rfl rfl ?_ | refine W.doffn rfl rfl ?_ | refine W.dnil ?_)
  refine W.dldZ ds rfl rfl rfl gK q5K rfl (v := va) rfl fun r1 h1 ds s1 => ?_
  have x1 := ds.x
  refine W.dcallZ ds rfl rfl rfl rfl (own_w (lo := h.next) owa (3, k) (sa.ext (YK.trans x1)) hmL.1 (Nat.le_trans lK x1.next) fun v2 h2 owb x2 t2 o2 => DZ.val x2 fun r3 h3 ds s3 => ?_)
  repeat (first | refine W.doffn rfl rfl ?_ | refine W.dopn rfl rfl op_lss rfl ?_ | refine W.dopn rfl rfl op_leq rfl ?_ | refine W.dopn rfl rfl op_eql rfl ?_ | refine W.dopn rfl rfl op_neq rfl ?_ | refine W.dopn rfl rfl (op_sub (by omega) (by omega)) rfl ?_ | refine W.dopn rfl rfl (op_add (by omega) (by omega)) rfl ?_ | refine W.dopn (v := .int _ _) rfl rfl rfl rfl ?_ | refine W.dopn (v := .ptr _) rfl rfl rfl rfl ?_ | refine W.dopn (v := .bool _) rfl rfl rfl rfl ?_ | refine W.dopn (v := .slice _ _ _ _) rfl rfl rfl rfl ?_ | refine W.dopn (v := .agg _) rfl rfl rfl rfl ?_ | refine W.dopn (v := .tup _) rfl rfl rfl rfl ?_ | refine W.dopn rfl rfl rfl rfl ?_ | refine W.doffn rfl rfl ?_ | refine W.dnil ?_)
  refine W.dldZ ds rfl rfl rfl gK q5K rfl (v := vb) rfl fun r4 h4 ds s4 => ?_
  have x4 := ds.x
  refine W.dcallZ ds rfl rfl rfl rfl (own_w (lo := h.next) owb (4, k) (sb.ext (YK.trans x4)) hmL.2 (Nat.le_trans lK x4.next) fun v5 h5 owc x5 t5 o5 => DZ.val x5 fun r6 h6 ds s6 => ?_)
  obtain ⟨pa, na, ca, ea, ee⟩ := o2.form
  cases ee
  obtain ⟨pb, nb, cb, eb, ee⟩ := o5.form
  cases ee
  repeat (first | refine W.doffn rfl rfl ?_ | refine W.dopn rfl rfl op_lss rfl ?_ | refine W.dopn rfl rfl op_leq rfl ?_ | refine W.dopn rfl rfl op_eql rfl ?_ | refine W.dopn rfl rfl op_neq rfl ?_ | refine W.dopn rfl rfl (op_sub (by omega) (by omega)) rfl ?_ | refine W.dopn rfl rfl (op_add (by omega) (by omega)) rfl ?_ | refine W.dopn (v := .int _ _) rfl rfl rfl rfl ?_ | refine W.dopn (v := .ptr _) rfl rfl rfl rfl ?_ | refine W.dopn (v := .bool _) rfl rfl rfl rfl ?_ | refine W.dopn (v := .slice _ _ _ _) rfl rfl rfl rfl ?_ | refine W.dopn (v := .agg _) rfl rfl rfl rfl ?_ | refine W.dopn (v := .tup _) rfl rfl rfl rfl ?_ | refine W.dopn rfl rfl rfl rfl ?_ | refine W.doffn rfl rfl ?_ | refine W.dnil ?_)
  have x6 := ds.x
  refine W.dst (cs' := [.int .i64 L.a, .int .i64 L.b, .int .i64 L.len, .bool L.door, .int .i64 L.of, .slice pa na ca ea, vb]) ds.hri rfl rfl rfl rfl rfl rfl rfl ((x6.old _ q5K).trans gK) rfl fun r7 h7 hr7 s7 => ?_
  repeat (first | refine W.doffn rfl rfl ?_ | refine W.dopn rfl rfl op_lss rfl ?_ | refine W.dopn rfl rfl op_leq rfl ?_ | refine W.dopn rfl rfl op_eql rfl ?_ | refine W.dopn rfl rfl op_neq rfl ?_ | refine W.dopn rfl rfl (op_sub (by omega) (by omega)) rfl ?_ | refine W.dopn rfl rfl (op_add (by omega) (by omega)) rfl ?_ | refine W.dopn (v := .int _ _) rfl rfl rfl rfl ?_ | refine W.dopn (v := .ptr _) rfl rfl rfl rfl ?_ | refine W.dopn (v := .bool _) rfl rfl rfl rfl ?_ | refine W.dopn (v := .slice _ _ _ _) rfl rfl rfl rfl ?_ | refine W.dopn (v := .agg _) rfl rfl rfl rfl ?_ | refine W.dopn (v := .tup _) rfl rfl rfl rfl ?_ | refine W.dopn rfl rfl rfl rfl ?_ | refine W.doffn rfl rfl ?_ | refine W.dnil ?_)
  refine W.dst (cs' := [.int .i64 L.a, .int .i64 L.b, .int .i64 L.len, .bool L.door, .int .i64 L.of, .slice pa na ca ea, .slice pb nb cb eb]) hr7 rfl rfl rfl rfl rfl rfl rfl ((s7.get _).trans (put_same _ _ _)) rfl fun r8 h8 hr8 s8 => ?_
  have g8 : h8.get q5 = some (.cells [.int .i64 L.a, .int .i64 L.b, .int .i64 L.len, .bool L.door, .int .i64 L.of, .slice pa na ca ea, .slice pb nb cb eb] false) := by rw [s8.get, put_same]
  have n8 : h8.next = h6.next := s8.next.trans s7.next
  have k8 : ∀ k', k' ≠ q5 → h8.get k' = h6.get k' := fun k' hne => by rw [s8.get, Heap.get_put, if_neg (Ne.symm hne), s7.get, Heap.get_put, if_neg (Ne.symm hne)]
  have tc : Tags K.next owa owc := fun j hj => (t5 j (by have := x4.next; omega)).trans (t2 j (by have := x1.next; omega))
  have m6 := x6.next
  have O8 : Only h6 h8 owc h.next (5, 0) := only_of ((tc _ q5K).trans ta5) l5 n8 (by omega) k8
  have oL8 := ((oLK.tags tc).ext x6).keep O8 (by decide) (by decide) (by decide) (by decide)
  have oC8 := ((oCK.tags tc).ext x6).keep O8 (by decide) (by decide) (by decide)
  have o28 := ((((o2.ext s3.ext).ext s4.ext).tags t5).ext (x5.trans s6.ext)).keep O8 (fun e => by cases e) (by decide)
  have o58 := (o5.ext s6.ext).keep O8 (fun e => by cases e) (by decide)
  have Y8 : Ext h h8 := O8.ext (YK.trans x6) (Nat.le_refl _)
  have gq8 := (k8 q3 n35).trans ((x6.old _ hqK).trans gqK)
  have gb8 := (k8 h.next (by omega)).trans ((x6.old _ (by omega)).trans gbK)
  have gz8 := (k8 (h.next + 1) (by omega)).trans ((x6.old _ qK).trans gzK)
  have tb8 := (tc _ (by omega)).trans tbK
  have tz8 := (tc _ qK).trans tzK
  have tq8 := (tc _ hqK).trans tqK
  have q38 : q3 < h8.next := by omega
  clear gK fK YK gbK gzK gqK oLK oCK tbK tzK tqK s8 hr8 s7 hr7 ds s6 s4 s3 s1 x1 x2 x4 x5 x6 t2 t5 o2 o5 k8 O8
  repeat (first | refine W.doffn rfl rfl ?_ | refine W.dopn rfl rfl op_lss rfl ?_ | refine W.dopn rfl rfl op_leq rfl ?_ | refine W.dopn rfl rfl op_eql rfl ?_ | refine W.dopn rfl rfl op_neq rfl ?_ | refine W.dopn rfl rfl (op_sub (by omega) (by omega)) rfl ?_ | refine W.dopn rfl rfl (op_add (by omega) (by omega)) rfl ?_ | refine W.dopn (v := .int _ _) rfl rfl rfl rfl ?_ | refine W.dopn (v := .ptr _) rfl rfl rfl rfl ?_ | refine W.dopn (v := .bool _) rfl rfl rfl rfl ?_ | refine W.dopn (v := .slice _ _ _ _) rfl rfl rfl rfl ?_ | refine W.dopn (v := .agg _) rfl rfl rfl rfl ?_ | refine W.dopn (v := .tup _) rfl rfl rfl rfl ?_ | refine W.dopn rfl rfl rfl rfl ?_ | refine W.doffn rfl rfl ?_ | refine W.dnil ?_)
  repeat (first | (with_reducible first | refine W.seq ?_ | refine W.block ?_ | refine W.region ?_ | refine W.draws ?_ | refine W.skip ?_ | refine W.exit ?_ | refine W.ret ?_ | refine SeqQ.normal ?_ | refine SeqQ.exit ?_ | refine SeqQ.ret ?_ | refine BlockQ.exit ?_ | refine BlockQ.normal ?_ | refine BlockQ.ret ?_ | refine BlockQ.other rfl ?_ | refine LoopQ.exit ?_ | refine CallQ.val ?_ | refine CutQ.normal ?_ | refine LoopQ.ret ?_) | refine W.offn rfl rfl ?_ | refine W.opn rfl op_lss rfl ?_ | refine W.opn rfl op_leq rfl ?_ | refine W.opn rfl op_eql rfl ?_ | refine W.opn rfl op_neq rfl ?_ | refine W.opn rfl (op_sub (by omega) (by omega)) rfl ?_ | refine W.opn rfl (op_add (by omega) (by omega)) rfl ?_ | refine W.opn (v := .int _ _) rfl rfl rfl ?_ | refine W.opn (v := .ptr _) rfl rfl rfl ?_ | refine W.opn (v := .bool _) rfl rfl rfl ?_ | refine W.opn (v := .slice _ _ _ _) rfl rfl rfl ?_ | refine W.opn (v := .agg _) rfl rfl rfl ?_ | refine W.opn (v := .tup _) rfl rfl rfl ?_ | refine W.opn rfl rfl rfl ?_ | refine W.offn rfl rfl ?_ | refine W.nil ?_)
  refine W.anyTm (fun tm => tm.look 1 = .ptr (some (h.next, 0)) ∧ tm.look 2 = .ptr (some (h.next + 1, 0)) ∧ tm.look 3 = .ptr (some (q3, 0)) ∧ tm.look 4 = .int .i64 (k : Int) ∧ tm.look 5 = .ptr (some (q5, 0)) ∧ tm.look 32 = .ptr (some (q3, 2))) ⟨rfl, rfl, rfl, rfl, rfl, rfl⟩ ?_
  rintro tm ⟨w1, w2, w3, w4, w5, w32⟩
  obtain ⟨T, rfl⟩ : ∃ T : Tm, tm = ((((((T.set 1 (some (.ptr (some (h.next, 0))))).set 2 (some (.ptr (some (h.next + 1, 0))))).set 3 (some (.ptr (some (q3, 0))))).set 4 (some (.int .i64 (k : Int)))).set 5 (some (.ptr (some (q5, 0))))).set 32 (some (.ptr (some (q3, 2))))) := ⟨tm, (show tm = ((((((tm.set 1 (some (tm.look 1))).set 2 (some (tm.look 2))).set 3 (some (tm.look 3))).set 4 (some (tm.look 4))).set 5 (some (tm.look 5))).set 32 (some (tm.look 32))) by rfl).trans (by rw [w1, w2, w3, w4, w5, w32])⟩
  clear w1 w2 w3 w4 w5 w32
  repeat (first | (with_reducible first | refine W.seq ?_ | refine W.block ?_ | refine W.region ?_ | refine W.draws ?_ | refine W.skip ?_ | refine W.exit ?_ | refine W.ret ?_ | refine SeqQ.normal ?_ | refine SeqQ.exit ?_ | refine SeqQ.ret ?_ | refine BlockQ.exit ?_ | refine BlockQ.normal ?_ | refine BlockQ.ret ?_ | refine BlockQ.other rfl ?_ | refine LoopQ.exit ?_ | refine CallQ.val ?_ | refine CutQ.normal ?_ | refine LoopQ.ret ?_) | refine W.offn rfl rfl ?_ | refine W.opn rfl op_lss rfl ?_ | refine W.opn rfl op_leq rfl ?_ | refine W.opn rfl op_eql rfl ?_ | refine W.opn rfl op_neq rfl ?_ | refine W.opn rfl (op_sub (by omega) (by omega)) rfl ?_ | refine W.opn rfl (op_add (by omega) (by omega)) rfl ?_ | refine W.opn (v := .int _ _) rfl rfl rfl ?_ | refine W.opn (v := .ptr _) rfl rfl rfl ?_ | refine W.opn (v := .bool _) rfl rfl rfl ?_ | refine W.opn (v := .slice _ _ _ _) rfl rfl rfl ?_ | refine W.opn (v := .agg _) rfl rfl rfl ?_ | refine W.opn (v := .tup _) rfl rfl rfl ?_ | refine W.opn rfl rfl rfl ?_ | refine W.offn rfl rfl ?_ | refine W.nil ?_)
  refine W.ld (off := 2) (v := vo) rfl rfl rfl gq8 rfl rfl ?_
  repeat (first | (with_reducible first | refine W.seq ?_ | refine W.block ?_ | refine W.region ?_ | refine W.draws ?_ | refine W.skip ?_ | refine W.exit ?_ | refine W.ret ?_ | refine SeqQ.normal ?_ | refine SeqQ.exit ?_ | refine SeqQ.ret ?_ | refine BlockQ.exit ?_ | refine BlockQ.normal ?_ | refine BlockQ.ret ?_ | refine BlockQ.other rfl ?_ | refine LoopQ.exit ?_ | refine CallQ.val ?_ | refine CutQ.normal ?_ | refine LoopQ.ret ?_) | refine W.offn rfl rfl ?_ | refine W.opn rfl op_lss rfl ?_ | refine W.opn rfl op_leq rfl ?_ | refine W.opn rfl op_eql rfl ?_ | refine W.opn rfl op_neq rfl ?_ | refine W.opn rfl (op_sub (by omega) (by omega)) rfl ?_ | refine W.opn rfl (op_add (by omega) (by omega)) rfl ?_ | refine W.opn (v := .int _ _) rfl rfl rfl ?_ | refine W.opn (v := .ptr _) rfl rfl rfl ?_ | refine W.opn (v := .bool _) rfl rfl rfl ?_ | refine W.opn (v := .slice _ _ _ _) rfl rfl rfl ?_ | refine W.opn (v := .agg _) rfl rfl rfl ?_ | refine W.opn (v := .tup _) rfl rfl rfl ?_ | refine W.opn rfl rfl rfl ?_ | refine W.offn rfl rfl ?_ | refine W.nil ?_)
  refine W.ld rfl rfl rfl g8 rfl rfl ?_
  obtain ⟨css, a1, a2, a3⟩ := oL8
  obtain ⟨pv, nv, cv, ev, ee⟩ := a1.form
  cases ee
  have hlen : (l.take k).length = k := by rw [List.length_take]; omega
  repeat (first | refine W.offn rfl rfl ?_ | refine W.opn rfl op_lss rfl ?_ | refine W.opn rfl op_leq rfl ?_ | refine W.opn rfl op_eql rfl ?_ | refine W.opn rfl op_neq rfl ?_ | refine W.opn rfl (op_sub (by omega) (by omega)) rfl ?_ | refine W.opn rfl (op_add (by omega) (by omega)) rfl ?_ | refine W.opn (v := .int _ _) rfl rfl rfl ?_ | refine W.opn (v := .ptr _) rfl rfl rfl ?_ | refine W.opn (v := .bool _) rfl rfl rfl ?_ | refine W.opn (v := .slice _ _ _ _) rfl rfl rfl ?_ | refine W.opn (v := .agg _) rfl rfl rfl ?_ | refine W.opn (v := .tup _) rfl rfl rfl ?_ | refine W.opn rfl rfl rfl ?_ | refine W.offn rfl rfl ?_)
  have X9 := Ext.new h8 (.cells [.int .i64 L.a, .int .i64 L.b, .int .i64 L.len, .bool L.door, .int .i64 L.of, .slice pa na ca ea, .slice pb nb cb eb] false)
  obtain ⟨h9, hh9⟩ : ∃ h9, h9 = h8.new (.cells [.int .i64 L.a, .int .i64 L.b, .int .i64 L.len, .bool L.door, .int .i64 L.of, .slice pa na ca ea, .slice pb nb cb eb] false) := ⟨_, rfl⟩
  have n9 : h9.next = h8.next + 1 := by rw [hh9]; rfl
  have g9 : h9.get h8.next = some (.cells [.int .i64 L.a, .int .i64 L.b, .int .i64 L.len, .bool L.door, .int .i64 L.of, .slice pa na ca ea, .slice pb nb cb eb] false) := by rw [hh9]; exact new_same _ _
  rw [← hh9] at X9
  refine cast (congrArg (fun H => W _ _ _ H _) hh9) ?_
  clear hh9 g8
  have l8 : h.next ≤ h8.next := Y8.next
  refine W.apT (a1.ext X9) (by decide) (by omega) g9 rfl rfl rfl rfl rfl rfl rfl rfl rfl rfl rfl rfl rfl (by rw [a2, hlen]; show (k + 1) * 88 ≤ _; omega) fun v10 h10 n10 O10 o10 => ?_
  obtain ⟨pw, nw, cw, ew, ee⟩ := o10.form
  cases ee
  obtain ⟨owd, hwd⟩ : ∃ owd, owd = updT owc h9.next (1, 0) := ⟨_, rfl⟩
  rw [← hwd] at o10
  have td : Tags h9.next owc owd := by rw [hwd]; exact Tags.refl.upd (Nat.le_refl _)
  have Od := O10.tags td
  have gq10 := (O10.old q3 (by omega) (.inr (by rw [tq8]; decide))).trans ((X9.old _ q38).trans gq8)
  have gb10 := (O10.old h.next (by omega) (.inr (by rw [tb8]; decide))).trans ((X9.old _ (by omega)).trans gb8)
  have gz10 := (O10.old (h.next + 1) (by omega) (.inr (by rw [tz8]; decide))).trans ((X9.old _ (by omega)).trans gz8)
  repeat (first | refine W.offn rfl rfl ?_ | refine W.opn rfl op_lss rfl ?_ | refine W.opn rfl op_leq rfl ?_ | refine W.opn rfl op_eql rfl ?_ | refine W.opn rfl op_neq rfl ?_ | refine W.opn rfl (op_sub (by omega) (by omega)) rfl ?_ | refine W.opn rfl (op_add (by omega) (by omega)) rfl ?_ | refine W.opn (v := .int _ _) rfl rfl rfl ?_ | refine W.opn (v := .ptr _) rfl rfl rfl ?_ | refine W.opn (v := .bool _) rfl rfl rfl ?_ | refine W.opn (v := .slice _ _ _ _) rfl rfl rfl ?_ | refine W.opn (v := .agg _) rfl rfl rfl ?_ | refine W.opn (v := .tup _) rfl rfl rfl ?_ | refine W.opn rfl rfl rfl ?_ | refine W.offn rfl rfl ?_)
  refine W.stn (cs' := [.int .i64 hz, .slice p n c x, .slice pw nw cw ew]) rfl rfl rfl rfl rfl rfl gq10 rfl fun M nxM gM kpM => ?_
  have tqd := (td q3 (by omega)).trans tq8
  have OM : Only h10 M owd h.next (8, 0) := only_of tqd (by omega) nxM (by omega) kpM
  have YM : Ext h M := OM.ext (O10.ext (Y8.trans X9) (Nat.le_refl _)) (Nat.le_refl _)
  have oCM := (((oC8.ext X9).tags td).keep Od (by decide) (by decide) (by decide)).keep OM (by decide) (by decide) (by decide)
  have oLM : OwnL M owd h.next (.slice pw nw cw ew) (l.take (k + 1)) := by
    have g : l.take (k + 1) = l.take k ++ [L] := by rw [List.take_add_one, hL]; rfl
    rw [g]
    refine (OwnL.more a2 (fun j cs L hc hw => (((a3 j cs L hc hw).ext X9).tags td).keep Od (fun e => by cases e) (fun e => by cases e) (by decide)) o10 ?_).keep OM (by decide) (by decide) (by decide) (by decide)
    rw [hlen]
    exact ⟨_, _, rfl, ((o28.ext X9).tags td).keep Od (fun e => by cases e) (by decide), ((o58.ext X9).tags td).keep Od (fun e => by cases e) (by decide)⟩
  have gbM := (kpM h.next (by omega)).trans gb10
  have gzM := (kpM (h.next + 1) (by omega)).trans gz10
  have q3M : q3 < M.next := by omega
  have tbd := (td h.next (by omega)).trans tb8
  have tzd := (td (h.next + 1) (by omega)).trans tz8
  refine W.anyTm (fun tm => tm.look 1 = .ptr (some (h.next, 0)) ∧ tm.look 2 = .ptr (some (h.next + 1, 0)) ∧ tm.look 3 = .ptr (some (q3, 0)) ∧ tm.look 4 = .int .i64 (k : Int)) ⟨rfl, rfl, rfl, rfl⟩ ?_
  rintro tm ⟨w1, w2, w3, w4⟩
  obtain ⟨T, rfl⟩ : ∃ T : Tm, tm = ((((T.set 1 (some (.ptr (some (h.next, 0))))).set 2 (some (.ptr (some (h.next + 1, 0))))).set 3 (some (.ptr (some (q3, 0))))).set 4 (some (.int .i64 (k : Int)))) := ⟨tm, (show tm = ((((tm.set 1 (some (tm.look 1))).set 2 (some (tm.look 2))).set 3 (some (tm.look 3))).set 4 (some (tm.look 4))) by rfl).trans (by rw [w1, w2, w3, w4])⟩
  clear w1 w2 w3 w4
  repeat (first | (with_reducible first | refine W.seq ?_ | refine W.block ?_ | refine W.region ?_ | refine W.draws ?_ | refine W.skip ?_ | refine W.exit ?_ | refine W.ret ?_ | refine SeqQ.normal ?_ | refine SeqQ.exit ?_ | refine SeqQ.ret ?_ | refine BlockQ.exit ?_ | refine BlockQ.normal ?_ | refine BlockQ.ret ?_ | refine BlockQ.other rfl ?_ | refine LoopQ.exit ?_ | refine CallQ.val ?_ | refine CutQ.normal ?_ | refine LoopQ.ret ?_) | refine W.offn rfl rfl ?_ | refine W.opn rfl op_lss rfl ?_ | refine W.opn rfl op_leq rfl ?_ | refine W.opn rfl op_eql rfl ?_ | refine W.opn rfl op_neq rfl ?_ | refine W.opn rfl (op_sub (by omega) (by omega)) rfl ?_ | refine W.opn rfl (op_add (by omega) (by omega)) rfl ?_ | refine W.opn (v := .int _ _) rfl rfl rfl ?_ | refine W.opn (v := .ptr _) rfl rfl rfl ?_ | refine W.opn (v := .bool _) rfl rfl rfl ?_ | refine W.opn (v := .slice _ _ _ _) rfl rfl rfl ?_ | refine W.opn (v := .agg _) rfl rfl rfl ?_ | refine W.opn (v := .tup _) rfl rfl rfl ?_ | refine W.opn rfl rfl rfl ?_ | refine W.offn rfl rfl ?_ | refine W.nil ?_)
  exact ⟨k + 1, by show l.length - (k + 1) < l.length - k; omega, rfl, rfl, rfl, rfl, ⟨_, owd, oLM, oCM, gM, gbM, gzM, tbd, tzd, tqd⟩, by omega, YM, q3M⟩
end
end Go.Proofs.Ytdcegklfbhfddaa
