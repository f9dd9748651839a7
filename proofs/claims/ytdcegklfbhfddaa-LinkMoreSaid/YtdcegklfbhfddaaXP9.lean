/- A link's first tick, whatever is asked; a net of one's own with one row turned. No condition. -/
import Derived.Test.YtdcegklfbhfddaaXP8
namespace Go.Proofs.Ytdcegklfbhfddaa
set_option linter.unusedVariables false
set_option linter.unusedSimpArgs false
open Go Go.CM
noncomputable section
set_option maxHeartbeats 40000000
set_option maxRecDepth 100000

theorem first_any {h : Heap} {tm : Tm} {Q : R → Prop} {hz : Int} {vc vl : CV} {cl : List (List (Int × Int))} {l : List LinkD} (sc : SlC h vc cl) (sl : SlL h vl l) (hm : Short l) (hn : l.length ≤ 1099511627776) (hmc : ∀ w ∈ cl, w.length ≤ 1099511627776) (hnc : cl.length ≤ 1099511627776)
    (ok : NetOk hz cl l) {i : Nat} {L : LinkD} (hi : l[i]? = some L) {na : Nat} (hna : L.a = (na : Int)) {w : List (Int × Int)} (hw : cl[na]? = some w) (t : Int)
    (q : ∀ h' (a d : Int), Ext h h' → (tickOk t → ∃ r, (kOf L w).First (hz - L.len) t r ∧ a = r.getD 4611686018427387904 ∧ d = (r.map (· + L.len)).getD 4611686018427387904) → (¬ tickOk t → a = 4611686018427387904 ∧ d = 4611686018427387904) → Q (.val (.tup [.int .i64 a, .int .i64 d]) h')) :
    W E1 (.call (.fn 12 [] []) [.agg [.int .i64 hz, vc, vl], .int .i64 (i : Int), .int .i64 t]) tm h Q := by
  by_cases ht : tickOk t
  · exact first_w sc sl hm hn hmc hnc ok hi hna hw t ht fun h' r X f => q h' _ _ X (fun _ => ⟨r, f, rfl, rfl⟩) fun c => absurd ht c
  have hil := (List.getElem?_eq_some_iff.1 hi).1
  refine W.fn (s := fnOf Try.f12) rfl rfl rfl rfl ?_
  repeat (first | (with_reducible first | refine W.seq ?_ | refine W.block ?_ | refine W.region ?_ | refine W.draws ?_ | refine W.skip ?_ | refine W.exit ?_ | refine W.ret ?_ | refine SeqQ.normal ?_ | refine SeqQ.exit ?_ | refine SeqQ.ret ?_ | refine BlockQ.exit ?_ | refine BlockQ.normal ?_ | refine BlockQ.ret ?_ | refine BlockQ.other rfl ?_ | refine LoopQ.exit ?_ | refine CallQ.val ?_ | refine CutQ.normal ?_ | refine LoopQ.ret ?_) | refine W.offn rfl rfl ?_ | refine W.opn rfl op_lss rfl ?_ | refine W.opn rfl op_leq rfl ?_ | refine W.opn rfl op_eql rfl ?_ | refine W.opn rfl op_neq rfl ?_ | refine W.opn rfl (op_sub (by omega) (by omega)) rfl ?_ | refine W.opn rfl (op_add (by omega) (by omega)) rfl ?_ | refine W.opn (v := .int _ _) rfl rfl rfl ?_ | refine W.opn (v := .ptr _) rfl rfl rfl ?_ | refine W.opn (v := .bool _) rfl rfl rfl ?_ | refine W.opn (v := .slice _ _ _ _) rfl rfl rfl ?_ | refine W.opn (v := .agg _) rfl rfl rfl ?_ | refine W.opn (v := .tup _) rfl rfl rfl ?_ | refine W.opn rfl rfl rfl ?_ | refine W.offn rfl rfl ?_ | refine W.nil ?_)
  generalize hH : h.new (.cells [.int .i64 hz, vc, vl] false) = H
  have gb : H.get h.next = some (.cells [.int .i64 hz, vc, vl] false) := by rw [← hH]; exact new_same _ _
  have X : Ext h H := by rw [← hH]; exact Ext.new _ _
  have hb : h.next < H.next := by rw [← hH]; exact Nat.lt_succ_self _
  clear hH
  refine W.anyTm (fun tm => tm.look 1 = .int .i64 (i : Int) ∧ tm.look 2 = .int .i64 t ∧ tm.look 3 = .ptr (some (h.next, 0)) ∧ tm.look 6 = .int .i64 0 ∧ tm.look 7 = .int .i64 0) ⟨rfl, rfl, rfl, rfl, rfl⟩ ?_
  rintro tm ⟨w1, w2, w3, w6, w7⟩
  obtain ⟨T, rfl⟩ : ∃ T : Tm, tm = (((((T.set 1 (some (.int .i64 (i : Int)))).set 2 (some (.int .i64 t))).set 3 (some (.ptr (some (h.next, 0))))).set 6 (some (.int .i64 0))).set 7 (some (.int .i64 0))) := ⟨tm, (show tm = (((((tm.set 1 (some (tm.look 1))).set 2 (some (tm.look 2))).set 3 (some (tm.look 3))).set 6 (some (tm.look 6))).set 7 (some (tm.look 7))) by rfl).trans (by rw [w1, w2, w3, w6, w7])⟩
  clear w1 w2 w3 w6 w7
  refine W.ld rfl rfl rfl gb rfl rfl ?_
  refine W.call rfl rfl rfl (check_w (sc.ext X) (sl.ext X) hm hn hmc hnc fun H1 e X1 he => ?_)
  have e0 := he.2 ok
  subst e0
  have Y1 := X.trans X1
  have gb1 := (X1.old _ hb).trans gb
  refine W.anyTm (fun tm => tm.look 1 = .int .i64 (i : Int) ∧ tm.look 2 = .int .i64 t ∧ tm.look 3 = .ptr (some (h.next, 0)) ∧ tm.look 6 = .int .i64 0 ∧ tm.look 7 = .int .i64 0 ∧ tm.look 15 = .int .i64 0) ⟨rfl, rfl, rfl, rfl, rfl, rfl⟩ ?_
  rintro tm ⟨w1, w2, w3, w6, w7, w15⟩
  obtain ⟨T, rfl⟩ : ∃ T : Tm, tm = ((((((T.set 1 (some (.int .i64 (i : Int)))).set 2 (some (.int .i64 t))).set 3 (some (.ptr (some (h.next, 0))))).set 6 (some (.int .i64 0))).set 7 (some (.int .i64 0))).set 15 (some (.int .i64 0))) := ⟨tm, (show tm = ((((((tm.set 1 (some (tm.look 1))).set 2 (some (tm.look 2))).set 3 (some (tm.look 3))).set 6 (some (tm.look 6))).set 7 (some (tm.look 7))).set 15 (some (tm.look 15))) by rfl).trans (by rw [w1, w2, w3, w6, w7, w15])⟩
  clear w1 w2 w3 w6 w7 w15
  repeat (first | (with_reducible first | refine W.seq ?_ | refine W.block ?_ | refine W.region ?_ | refine W.draws ?_ | refine W.skip ?_ | refine W.exit ?_ | refine W.ret ?_ | refine SeqQ.normal ?_ | refine SeqQ.exit ?_ | refine SeqQ.ret ?_ | refine BlockQ.exit ?_ | refine BlockQ.normal ?_ | refine BlockQ.ret ?_ | refine BlockQ.other rfl ?_ | refine LoopQ.exit ?_ | refine CallQ.val ?_ | refine CutQ.normal ?_ | refine LoopQ.ret ?_) | refine W.offn rfl rfl ?_ | refine W.opn rfl op_lss rfl ?_ | refine W.opn rfl op_leq rfl ?_ | refine W.opn rfl op_eql rfl ?_ | refine W.opn rfl op_neq rfl ?_ | refine W.opn rfl (op_sub (by omega) (by omega)) rfl ?_ | refine W.opn rfl (op_add (by omega) (by omega)) rfl ?_ | refine W.opn (v := .int _ _) rfl rfl rfl ?_ | refine W.opn (v := .ptr _) rfl rfl rfl ?_ | refine W.opn (v := .bool _) rfl rfl rfl ?_ | refine W.opn (v := .slice _ _ _ _) rfl rfl rfl ?_ | refine W.opn (v := .agg _) rfl rfl rfl ?_ | refine W.opn (v := .tup _) rfl rfl rfl ?_ | refine W.opn rfl rfl rfl ?_ | refine W.offn rfl rfl ?_ | refine W.nil ?_)
  rw [decide_eq_false (by omega : ¬ (i : Int) < 0)]
  repeat (first | (with_reducible first | refine W.seq ?_ | refine W.block ?_ | refine W.region ?_ | refine W.draws ?_ | refine W.skip ?_ | refine W.exit ?_ | refine W.ret ?_ | refine SeqQ.normal ?_ | refine SeqQ.exit ?_ | refine SeqQ.ret ?_ | refine BlockQ.exit ?_ | refine BlockQ.normal ?_ | refine BlockQ.ret ?_ | refine BlockQ.other rfl ?_ | refine LoopQ.exit ?_ | refine CallQ.val ?_ | refine CutQ.normal ?_ | refine LoopQ.ret ?_) | refine W.offn rfl rfl ?_ | refine W.opn rfl op_lss rfl ?_ | refine W.opn rfl op_leq rfl ?_ | refine W.opn rfl op_eql rfl ?_ | refine W.opn rfl op_neq rfl ?_ | refine W.opn rfl (op_sub (by omega) (by omega)) rfl ?_ | refine W.opn rfl (op_add (by omega) (by omega)) rfl ?_ | refine W.opn (v := .int _ _) rfl rfl rfl ?_ | refine W.opn (v := .ptr _) rfl rfl rfl ?_ | refine W.opn (v := .bool _) rfl rfl rfl ?_ | refine W.opn (v := .slice _ _ _ _) rfl rfl rfl ?_ | refine W.opn (v := .agg _) rfl rfl rfl ?_ | refine W.opn (v := .tup _) rfl rfl rfl ?_ | refine W.opn rfl rfl rfl ?_ | refine W.offn rfl rfl ?_ | refine W.nil ?_)
  refine W.ld rfl rfl rfl gb1 rfl rfl ?_
  refine W.ln sl.lenOf rfl rfl rfl rfl rfl rfl rfl rfl ?_
  have hc : (Int.ofNat l.length) = (l.length : Int) := rfl
  repeat (first | (with_reducible first | refine W.seq ?_ | refine W.block ?_ | refine W.region ?_ | refine W.draws ?_ | refine W.skip ?_ | refine W.exit ?_ | refine W.ret ?_ | refine SeqQ.normal ?_ | refine SeqQ.exit ?_ | refine SeqQ.ret ?_ | refine BlockQ.exit ?_ | refine BlockQ.normal ?_ | refine BlockQ.ret ?_ | refine BlockQ.other rfl ?_ | refine LoopQ.exit ?_ | refine CallQ.val ?_ | refine CutQ.normal ?_ | refine LoopQ.ret ?_) | refine W.offn rfl rfl ?_ | refine W.opn rfl op_lss rfl ?_ | refine W.opn rfl op_leq rfl ?_ | refine W.opn rfl op_eql rfl ?_ | refine W.opn rfl op_neq rfl ?_ | refine W.opn rfl (op_sub (by omega) (by omega)) rfl ?_ | refine W.opn rfl (op_add (by omega) (by omega)) rfl ?_ | refine W.opn (v := .int _ _) rfl rfl rfl ?_ | refine W.opn (v := .ptr _) rfl rfl rfl ?_ | refine W.opn (v := .bool _) rfl rfl rfl ?_ | refine W.opn (v := .slice _ _ _ _) rfl rfl rfl ?_ | refine W.opn (v := .agg _) rfl rfl rfl ?_ | refine W.opn (v := .tup _) rfl rfl rfl ?_ | refine W.opn rfl rfl rfl ?_ | refine W.offn rfl rfl ?_ | refine W.nil ?_)
  rw [decide_eq_false (by omega : ¬ Int.ofNat l.length ≤ (i : Int))]
  repeat (first | (with_reducible first | refine W.seq ?_ | refine W.block ?_ | refine W.region ?_ | refine W.draws ?_ | refine W.skip ?_ | refine W.exit ?_ | refine W.ret ?_ | refine SeqQ.normal ?_ | refine SeqQ.exit ?_ | refine SeqQ.ret ?_ | refine BlockQ.exit ?_ | refine BlockQ.normal ?_ | refine BlockQ.ret ?_ | refine BlockQ.other rfl ?_ | refine LoopQ.exit ?_ | refine CallQ.val ?_ | refine CutQ.normal ?_ | refine LoopQ.ret ?_) | refine W.offn rfl rfl ?_ | refine W.opn rfl op_lss rfl ?_ | refine W.opn rfl op_leq rfl ?_ | refine W.opn rfl op_eql rfl ?_ | refine W.opn rfl op_neq rfl ?_ | refine W.opn rfl (op_sub (by omega) (by omega)) rfl ?_ | refine W.opn rfl (op_add (by omega) (by omega)) rfl ?_ | refine W.opn (v := .int _ _) rfl rfl rfl ?_ | refine W.opn (v := .ptr _) rfl rfl rfl ?_ | refine W.opn (v := .bool _) rfl rfl rfl ?_ | refine W.opn (v := .slice _ _ _ _) rfl rfl rfl ?_ | refine W.opn (v := .agg _) rfl rfl rfl ?_ | refine W.opn (v := .tup _) rfl rfl rfl ?_ | refine W.opn rfl rfl rfl ?_ | refine W.offn rfl rfl ?_ | refine W.nil ?_)
  refine W.call rfl rfl rfl (tick_w t fun e he => ?_)
  have e1 : e ≠ 0 := fun h => ht (he.1 h)
  repeat (first | (with_reducible first | refine W.seq ?_ | refine W.block ?_ | refine W.region ?_ | refine W.draws ?_ | refine W.skip ?_ | refine W.exit ?_ | refine W.ret ?_ | refine SeqQ.normal ?_ | refine SeqQ.exit ?_ | refine SeqQ.ret ?_ | refine BlockQ.exit ?_ | refine BlockQ.normal ?_ | refine BlockQ.ret ?_ | refine BlockQ.other rfl ?_ | refine LoopQ.exit ?_ | refine CallQ.val ?_ | refine CutQ.normal ?_ | refine LoopQ.ret ?_) | refine W.offn rfl rfl ?_ | refine W.opn rfl op_lss rfl ?_ | refine W.opn rfl op_leq rfl ?_ | refine W.opn rfl op_eql rfl ?_ | refine W.opn rfl op_neq rfl ?_ | refine W.opn rfl (op_sub (by omega) (by omega)) rfl ?_ | refine W.opn rfl (op_add (by omega) (by omega)) rfl ?_ | refine W.opn (v := .int _ _) rfl rfl rfl ?_ | refine W.opn (v := .ptr _) rfl rfl rfl ?_ | refine W.opn (v := .bool _) rfl rfl rfl ?_ | refine W.opn (v := .slice _ _ _ _) rfl rfl rfl ?_ | refine W.opn (v := .agg _) rfl rfl rfl ?_ | refine W.opn (v := .tup _) rfl rfl rfl ?_ | refine W.opn rfl rfl rfl ?_ | refine W.offn rfl rfl ?_ | refine W.nil ?_)
  rw [decide_eq_true e1]
  refine W.cond (x := true) rfl (fun _ => ?_) (fun hc => by cases hc)
  repeat (first | (with_reducible first | refine W.seq ?_ | refine W.block ?_ | refine W.region ?_ | refine W.draws ?_ | refine W.skip ?_ | refine W.exit ?_ | refine W.ret ?_ | refine SeqQ.normal ?_ | refine SeqQ.exit ?_ | refine SeqQ.ret ?_ | refine BlockQ.exit ?_ | refine BlockQ.normal ?_ | refine BlockQ.ret ?_ | refine BlockQ.other rfl ?_ | refine LoopQ.exit ?_ | refine CallQ.val ?_ | refine CutQ.normal ?_ | refine LoopQ.ret ?_) | refine W.offn rfl rfl ?_ | refine W.opn rfl op_lss rfl ?_ | refine W.opn rfl op_leq rfl ?_ | refine W.opn rfl op_eql rfl ?_ | refine W.opn rfl op_neq rfl ?_ | refine W.opn rfl (op_sub (by omega) (by omega)) rfl ?_ | refine W.opn rfl (op_add (by omega) (by omega)) rfl ?_ | refine W.opn (v := .int _ _) rfl rfl rfl ?_ | refine W.opn (v := .ptr _) rfl rfl rfl ?_ | refine W.opn (v := .bool _) rfl rfl rfl ?_ | refine W.opn (v := .slice _ _ _ _) rfl rfl rfl ?_ | refine W.opn (v := .agg _) rfl rfl rfl ?_ | refine W.opn (v := .tup _) rfl rfl rfl ?_ | refine W.opn rfl rfl rfl ?_ | refine W.offn rfl rfl ?_ | refine W.nil ?_)
  exact q _ _ _ Y1 (fun h => absurd h ht) fun _ => ⟨rfl, rfl⟩

/-- One row of windows is another one. -/
theorem OwnC.set {h h' : Heap} {own : Nat → Tag} {lo k : Nat} {v : CV} {cl : List (List (Int × Int))} {css : List (List CV)} {u : CV} {w : List (Int × Int)} (h2 : css.length = cl.length)
    (h3 : ∀ (j : Nat) (cs : List CV) (w : List (Int × Int)), css[j]? = some cs → cl[j]? = some w → ∃ u, cs = [u] ∧ OwnT h own lo 2 (2, j) u (w.map winC)) (x : Only h h' own lo (0, 0)) (hk : k < cl.length) (o : OwnT h' own lo 1 (0, 0) v (css.set k [u])) (ou : SlW h' u w) : SlC h' v (cl.set k w) := by
  refine ⟨css.set k [u], o.sl, by rw [List.length_set, List.length_set, h2], fun j cs w' hc hw => ?_⟩
  by_cases hj : j = k
  · subst hj
    rw [List.getElem?_set_self (by omega)] at hc hw
    cases hc
    cases hw
    exact ⟨u, rfl, ou⟩
  · rw [List.getElem?_set_ne (Ne.symm hj)] at hc hw
    obtain ⟨u', e, s⟩ := h3 j cs w' hc hw
    exact ⟨u', e, (s.keep x (fun e => by cases e) (fun e => by cases e)).sl⟩
/-- One link is another one. -/
theorem OwnL.set {h h' : Heap} {own : Nat → Tag} {lo k : Nat} {v : CV} {l : List LinkD} {css : List (List CV)} {e : List CV} {L : LinkD} (h2 : css.length = l.length)
    (h3 : ∀ (j : Nat) (cs : List CV) (L : LinkD), css[j]? = some cs → l[j]? = some L → OwnK h own lo j cs L) (x : Only h h' own lo (1, 0)) (hk : k < l.length) (o : OwnT h' own lo 7 (1, 0) v (css.set k e)) (oe : LinkR h' e L) : SlL h' v (l.set k L) := by
  refine ⟨css.set k e, o.sl, by rw [List.length_set, List.length_set, h2], fun j cs L' hc hw => ?_⟩
  by_cases hj : j = k
  · subst hj
    rw [List.getElem?_set_self (by omega)] at hc hw
    cases hc
    cases hw
    exact oe
  · rw [List.getElem?_set_ne (Ne.symm hj)] at hc hw
    exact ((h3 j cs L' hc hw).keep x (fun e => by cases e) (fun e => by cases e) (by show (1 : Nat) ≠ 9; decide)).sl

/-- The plain law: whoever may less is no earlier, and there no earlier. -/
theorem first_less2 {k k' : Wins.Link} {last t len : Int} {r r' : Option Int} (hlen : 0 ≤ len) (hl : last + len ≤ 1099511627776) (sub : ∀ y, k'.May y → k.May y) (h : k.First last t r) (h' : k'.First last t r') :
    r.getD 4611686018427387904 ≤ r'.getD 4611686018427387904 ∧ (r.map (· + len)).getD 4611686018427387904 ≤ (r'.map (· + len)).getD 4611686018427387904 := by
  have g := Wins.first_less (by omega) sub h h'
  refine ⟨g, ?_⟩
  cases r with
  | none =>
    cases r' with
    | none => exact Int.le_refl _
    | some c =>
      have g : (4611686018427387904 : Int) ≤ c := g
      have := h'.2.1
      omega
  | some a =>
    have h1 := h.2.1
    cases r' with
    | none => show a + len ≤ 4611686018427387904; omega
    | some c =>
      have g : a ≤ c := g
      show a + len ≤ c + len
      omega
end
end Go.Proofs.Ytdcegklfbhfddaa
