/- A sheet as such: its names, its numbers, whether it may be. No condition but that the table of spaces lies where it does. -/
import Derived.Test.YtmgpjfnlciapkaaGreatDoorYC
set_option linter.unusedVariables false
set_option linter.unusedSimpArgs false
namespace Go.Proofs.YtmgpjfnlciapkaaGreatDoor
open Go Go.CM Go.CM.Tt
noncomputable section
set_option maxHeartbeats 8000000
theorem within_w {h : Heap} {tm : Tm} {Q : R → Prop} (lo x hi : Int) (q : Q (.val (.bool (decide (lo ≤ x ∧ x ≤ hi))) h)) : W E1 (.call (.fn 147 [] []) [.int .i64 lo, .int .i64 x, .int .i64 hi]) tm h Q := by
  refine W.fn (s := fnOf Tryz.f147) rfl rfl rfl rfl ?_
  by_cases c : lo ≤ x
  · by_cases d : x ≤ hi
    · rw [decide_eq_true (⟨c, d⟩ : lo ≤ x ∧ x ≤ hi)] at q
      repeat (first | (with_reducible first | refine W.seq ?_ | refine W.region ?_ | refine W.skip ?_ | refine W.ret ?_ | refine SeqQ.normal ?_) | refine W.opn rfl op_lss rfl ?_ | refine W.opn rfl op_leq rfl ?_ | refine W.opn (v := .int _ _) rfl rfl rfl ?_ | refine W.opn (v := .bool _) rfl rfl rfl ?_ | refine W.nil ?_ | refine W.cond (x := false) rfl (fun hc => by cases hc) (fun _ => ?_) | rw [decide_eq_true (by first | assumption | omega)] | rw [decide_eq_false (by first | assumption | omega)])
      exact q
    · rw [decide_eq_false (fun h => d h.2 : ¬ (lo ≤ x ∧ x ≤ hi))] at q
      repeat (first | (with_reducible first | refine W.seq ?_ | refine W.region ?_ | refine W.skip ?_ | refine W.ret ?_ | refine SeqQ.normal ?_) | refine W.opn rfl op_lss rfl ?_ | refine W.opn rfl op_leq rfl ?_ | refine W.opn (v := .int _ _) rfl rfl rfl ?_ | refine W.opn (v := .bool _) rfl rfl rfl ?_ | refine W.nil ?_ | refine W.cond (x := false) rfl (fun hc => by cases hc) (fun _ => ?_) | rw [decide_eq_false (by first | assumption | omega)])
      exact q
  · rw [decide_eq_false (fun h => c h.1 : ¬ (lo ≤ x ∧ x ≤ hi))] at q
    repeat (first | (with_reducible first | refine W.seq ?_ | refine W.region ?_ | refine W.ret ?_ | refine SeqQ.normal ?_ | refine SeqQ.ret ?_) | refine W.opn rfl op_lss rfl ?_ | refine W.opn (v := .int _ _) rfl rfl rfl ?_ | refine W.opn (v := .bool _) rfl rfl rfl ?_ | refine W.nil ?_ | refine W.cond (x := true) rfl (fun _ => ?_) (fun hc => by cases hc) | rw [decide_eq_true (by first | assumption | omega)])
    exact q
theorem tick_w {h : Heap} {tm : Tm} {Q : R → Prop} (t : Int) (q : ∀ e : Int, (e = 0 ↔ TickOk t) → Q (.val (.int .i64 e) h)) : W E1 (.call (.fn 80 [] []) [.int .i64 t]) tm h Q := by
  refine W.fn (s := fnOf Tryz.f80) rfl rfl rfl rfl ?_
  repeat (first | (with_reducible first | refine W.seq ?_ | refine W.region ?_ | refine SeqQ.normal ?_) | refine W.opn (v := .int _ _) rfl rfl rfl ?_ | refine W.nil ?_)
  refine W.call rfl rfl rfl (within_w 0 t 1099511627776 ?_)
  by_cases c : 0 ≤ t ∧ t ≤ 1099511627776
  · repeat (first | (with_reducible first | refine W.seq ?_ | refine W.region ?_ | refine W.skip ?_ | refine W.ret ?_ | refine SeqQ.normal ?_ | refine CallQ.val ?_) | refine W.opn (v := .int _ _) rfl rfl rfl ?_ | refine W.opn (v := .bool _) rfl rfl rfl ?_ | refine W.nil ?_ | refine W.cond (x := false) rfl (fun hc => by cases hc) (fun _ => ?_) | rw [decide_eq_true (by first | assumption | omega)])
    exact q 0 (Iff.intro (fun _ => c) (fun _ => rfl))
  · repeat (first | (with_reducible first | refine W.seq ?_ | refine W.region ?_ | refine W.ret ?_ | refine SeqQ.normal ?_ | refine SeqQ.ret ?_ | refine CallQ.val ?_) | refine W.opn (v := .int _ _) rfl rfl rfl ?_ | refine W.opn (v := .bool _) rfl rfl rfl ?_ | refine W.nil ?_ | refine W.cond (x := true) rfl (fun _ => ?_) (fun hc => by cases hc) | rw [decide_eq_false (by first | assumption | omega)])
    exact q 9 (Iff.intro (fun h => by cases h) (fun h => absurd h c))
theorem idxF_str {h : Heap} {tm : Tm} {Q : R → Prop} {v : CV} {l : List Str} (f : Nat) (first caps : List CV) (P : Str → Prop) (sl : Sl h v l) (hm : l.length ≤ 1099511627776)
    (hf : ∀ d, d ∈ l → ∀ (tm : Tm) (h' : Heap) (Q : R → Prop), Ext h h' → (∀ h2 (b : Bool), Ext h' h2 → (b = true ↔ P d) → Q (.val (.bool b) h2)) → W E1 (.call (.fn f first caps) [.str d]) tm h' Q)
    (q : ∀ h' (r : Int), Ext h h' → (0 ≤ r ↔ ∃ d, d ∈ l ∧ P d) → Q (.val (.int .i64 r) h')) : W E1 (.call (.fn 140 [] []) [v, .fn f first caps]) tm h Q := by
  refine W.fn (s := fnOf Tryz.f140) rfl rfl rfl rfl ?_
  repeat (first | (with_reducible first | refine W.seq ?_ | refine W.block ?_ | refine W.region ?_ | refine SeqQ.normal ?_) | refine W.lnS (by assumption) rfl rfl rfl rfl rfl rfl rfl rfl ?_ | refine W.opn (v := .int _ _) rfl rfl rfl ?_ | refine W.opn rfl rfl rfl ?_ | refine W.nil ?_)
  refine W.loop (σ := Nat) (fun k tm h' => Ext h h' ∧ tm.look 0 = v ∧ tm.look 1 = .fn f first caps ∧ tm.look 7 = .int .i64 (l.length : Int) ∧ tm.look 8 = .int .i64 (k : Int) ∧ k ≤ l.length ∧ ∀ j, j < k → ∀ a, l[j]? = some a → ¬ P a) (fun k => l.length - k) ?_ (s := 0)
    ⟨Ext.refl _, rfl, rfl, rfl, rfl, Nat.zero_le _, fun j hj => by omega⟩
  rintro k tm h' ⟨X, w0, w1, w7, w8, hk, hn⟩
  obtain ⟨T, rfl⟩ : ∃ T : Tm, tm = ((((T.set 0 (some (v))).set 1 (some (.fn f first caps))).set 7 (some (.int .i64 (l.length : Int)))).set 8 (some (.int .i64 (k : Int)))) := ⟨tm, (show tm = ((((tm.set 0 (some (tm.look 0))).set 1 (some (tm.look 1))).set 7 (some (tm.look 7))).set 8 (some (tm.look 8))) by rfl).trans (by rw [w0, w1, w7, w8])⟩
  clear w0 w1 w7 w8
  by_cases c1 : k < l.length
  · repeat (first | (with_reducible first | refine W.seq ?_ | refine W.block ?_ | refine W.region ?_ | refine W.skip ?_ | refine SeqQ.normal ?_) | refine W.opn rfl op_lss rfl ?_ | refine W.opn (v := .int _ _) rfl rfl rfl ?_ | refine W.opn rfl rfl rfl ?_ | refine W.nil ?_ | refine W.cond (x := true) rfl (fun _ => ?_) (fun hc => by cases hc) | rw [decide_eq_true (by first | assumption | omega)])
    refine W.ixF (by assumption) (by first | assumption | omega) rfl rfl rfl rfl rfl rfl rfl fun i_ o_ L_ => ?_
    repeat (first | refine W.ld0 (by assumption) (by (repeat (first | assumption | exact Ext.refl _ | refine Ext.trans ?_ (by assumption))); done) rfl rfl rfl rfl rfl rfl rfl rfl ?_)
    refine W.call rfl rfl rfl (hf l[k] (List.getElem_mem c1) _ _ _ X fun h2 b X2 hb => ?_)
    cases b
    · repeat (first | (with_reducible first | refine W.region ?_ | refine W.skip ?_ | refine SeqQ.normal ?_ | refine BlockQ.normal ?_ | refine CallQ.val ?_) | refine W.opn rfl (op_add (by omega) (by omega)) rfl ?_ | refine W.opn (v := .int _ _) rfl rfl rfl ?_ | refine W.nil ?_ | refine W.cond (x := false) rfl (fun hc => by cases hc) (fun _ => ?_))
      refine ⟨k + 1, lessN c1, X.trans X2, rfl, rfl, rfl, rfl, c1, fun j hj a ha hp => ?_⟩
      by_cases e : j = k
      · subst e
        rw [List.getElem?_eq_getElem c1] at ha
        cases ha
        cases hb.2 hp
      · exact hn j (by omega) a ha hp
    · repeat (first | (with_reducible first | refine W.seq ?_ | refine W.region ?_ | refine W.ret ?_ | refine SeqQ.normal ?_ | refine SeqQ.ret ?_ | refine BlockQ.ret ?_ | refine CallQ.val ?_ | refine LoopQ.ret ?_) | refine W.opn (v := .int _ _) rfl rfl rfl ?_ | refine W.nil ?_ | refine W.cond (x := true) rfl (fun _ => ?_) (fun hc => by cases hc))
      exact q _ _ (X.trans X2) (Iff.intro (fun _ => ⟨l[k], List.getElem_mem c1, hb.1 rfl⟩) (fun _ => by omega))
  · repeat (first | (with_reducible first | refine W.seq ?_ | refine W.region ?_ | refine W.exit ?_ | refine W.ret ?_ | refine SeqQ.normal ?_ | refine SeqQ.exit ?_ | refine BlockQ.exit ?_ | refine LoopQ.exit ?_) | refine W.opn rfl op_lss rfl ?_ | refine W.opn (v := .int _ _) rfl rfl rfl ?_ | refine W.nil ?_ | refine W.cond (x := false) rfl (fun hc => by cases hc) (fun _ => ?_) | rw [decide_eq_false (by first | assumption | omega)])
    refine q _ _ X (Iff.intro (fun h => by omega) (fun h => ?_))
    obtain ⟨d, hd, hp⟩ := h
    obtain ⟨j, hj⟩ := List.getElem?_of_mem hd
    exact absurd hp (hn j (by have := (List.getElem?_eq_some_iff.1 hj).1; omega) d hj)
theorem conF_str {h : Heap} {tm : Tm} {Q : R → Prop} {v : CV} {l : List Str} (f : Nat) (first caps : List CV) (P : Str → Prop) (sl : Sl h v l) (hm : l.length ≤ 1099511627776)
    (hf : ∀ d, d ∈ l → ∀ (tm : Tm) (h' : Heap) (Q : R → Prop), Ext h h' → (∀ h2 (b : Bool), Ext h' h2 → (b = true ↔ P d) → Q (.val (.bool b) h2)) → W E1 (.call (.fn f first caps) [.str d]) tm h' Q)
    (q : ∀ h' (b : Bool), Ext h h' → (b = true ↔ ∃ d, d ∈ l ∧ P d) → Q (.val (.bool b) h')) : W E1 (.call (.fn 73 [] []) [v, .fn f first caps]) tm h Q := by
  refine W.fn (s := fnOf Tryz.f73) rfl rfl rfl rfl ?_
  repeat (first | (with_reducible first | refine W.seq ?_ | refine W.region ?_ | refine SeqQ.normal ?_) | refine W.opn (v := .bool _) rfl rfl rfl ?_ | refine W.opn rfl rfl rfl ?_ | refine W.nil ?_)
  refine W.call rfl rfl rfl (idxF_str f first caps P sl hm hf fun h' r X hr => ?_)
  by_cases c : 0 ≤ r
  · repeat (first | (with_reducible first | refine W.ret ?_ | refine SeqQ.normal ?_ | refine CallQ.val ?_) | refine W.opn rfl op_leq rfl ?_ | refine W.opn (v := .bool _) rfl rfl rfl ?_ | refine W.nil ?_ | rw [decide_eq_true (by first | assumption | omega)])
    exact q h' true X (Iff.intro (fun _ => hr.1 c) (fun _ => rfl))
  · repeat (first | (with_reducible first | refine W.ret ?_ | refine SeqQ.normal ?_ | refine CallQ.val ?_) | refine W.opn rfl op_leq rfl ?_ | refine W.opn (v := .bool _) rfl rfl rfl ?_ | refine W.nil ?_ | rw [decide_eq_false (by first | assumption | omega)])
    exact q h' false X (Iff.intro (fun h => by cases h) (fun h => absurd (hr.2 h) c))
theorem idxF_int {h : Heap} {tm : Tm} {Q : R → Prop} {v : CV} {l : List Int} (f : Nat) (first caps : List CV) (P : Int → Prop) (sl : Sl h v l) (hm : l.length ≤ 1099511627776)
    (hf : ∀ d, d ∈ l → ∀ (tm : Tm) (h' : Heap) (Q : R → Prop), Ext h h' → (∀ h2 (b : Bool), Ext h' h2 → (b = true ↔ P d) → Q (.val (.bool b) h2)) → W E1 (.call (.fn f first caps) [.int .i64 d]) tm h' Q)
    (q : ∀ h' (r : Int), Ext h h' → (0 ≤ r ↔ ∃ d, d ∈ l ∧ P d) → Q (.val (.int .i64 r) h')) : W E1 (.call (.fn 145 [] []) [v, .fn f first caps]) tm h Q := by
  refine W.fn (s := fnOf Tryz.f145) rfl rfl rfl rfl ?_
  repeat (first | (with_reducible first | refine W.seq ?_ | refine W.block ?_ | refine W.region ?_ | refine SeqQ.normal ?_) | refine W.lnS (by assumption) rfl rfl rfl rfl rfl rfl rfl rfl ?_ | refine W.opn (v := .int _ _) rfl rfl rfl ?_ | refine W.opn rfl rfl rfl ?_ | refine W.nil ?_)
  refine W.loop (σ := Nat) (fun k tm h' => Ext h h' ∧ tm.look 0 = v ∧ tm.look 1 = .fn f first caps ∧ tm.look 7 = .int .i64 (l.length : Int) ∧ tm.look 8 = .int .i64 (k : Int) ∧ k ≤ l.length ∧ ∀ j, j < k → ∀ a, l[j]? = some a → ¬ P a) (fun k => l.length - k) ?_ (s := 0)
    ⟨Ext.refl _, rfl, rfl, rfl, rfl, Nat.zero_le _, fun j hj => by omega⟩
  rintro k tm h' ⟨X, w0, w1, w7, w8, hk, hn⟩
  obtain ⟨T, rfl⟩ : ∃ T : Tm, tm = ((((T.set 0 (some (v))).set 1 (some (.fn f first caps))).set 7 (some (.int .i64 (l.length : Int)))).set 8 (some (.int .i64 (k : Int)))) := ⟨tm, (show tm = ((((tm.set 0 (some (tm.look 0))).set 1 (some (tm.look 1))).set 7 (some (tm.look 7))).set 8 (some (tm.look 8))) by rfl).trans (by rw [w0, w1, w7, w8])⟩
  clear w0 w1 w7 w8
  by_cases c1 : k < l.length
  · repeat (first | (with_reducible first | refine W.seq ?_ | refine W.block ?_ | refine W.region ?_ | refine W.skip ?_ | refine SeqQ.normal ?_) | refine W.opn rfl op_lss rfl ?_ | refine W.opn (v := .int _ _) rfl rfl rfl ?_ | refine W.opn rfl rfl rfl ?_ | refine W.nil ?_ | refine W.cond (x := true) rfl (fun _ => ?_) (fun hc => by cases hc) | rw [decide_eq_true (by first | assumption | omega)])
    refine W.ixF (by assumption) (by first | assumption | omega) rfl rfl rfl rfl rfl rfl rfl fun i_ o_ L_ => ?_
    repeat (first | refine W.ld0 (by assumption) (by (repeat (first | assumption | exact Ext.refl _ | refine Ext.trans ?_ (by assumption))); done) rfl rfl rfl rfl rfl rfl rfl rfl ?_)
    refine W.call rfl rfl rfl (hf l[k] (List.getElem_mem c1) _ _ _ X fun h2 b X2 hb => ?_)
    cases b
    · repeat (first | (with_reducible first | refine W.region ?_ | refine W.skip ?_ | refine SeqQ.normal ?_ | refine BlockQ.normal ?_ | refine CallQ.val ?_) | refine W.opn rfl (op_add (by omega) (by omega)) rfl ?_ | refine W.opn (v := .int _ _) rfl rfl rfl ?_ | refine W.nil ?_ | refine W.cond (x := false) rfl (fun hc => by cases hc) (fun _ => ?_))
      refine ⟨k + 1, lessN c1, X.trans X2, rfl, rfl, rfl, rfl, c1, fun j hj a ha hp => ?_⟩
      by_cases e : j = k
      · subst e
        rw [List.getElem?_eq_getElem c1] at ha
        cases ha
        cases hb.2 hp
      · exact hn j (by omega) a ha hp
    · repeat (first | (with_reducible first | refine W.seq ?_ | refine W.region ?_ | refine W.ret ?_ | refine SeqQ.normal ?_ | refine SeqQ.ret ?_ | refine BlockQ.ret ?_ | refine CallQ.val ?_ | refine LoopQ.ret ?_) | refine W.opn (v := .int _ _) rfl rfl rfl ?_ | refine W.nil ?_ | refine W.cond (x := true) rfl (fun _ => ?_) (fun hc => by cases hc))
      exact q _ _ (X.trans X2) (Iff.intro (fun _ => ⟨l[k], List.getElem_mem c1, hb.1 rfl⟩) (fun _ => by omega))
  · repeat (first | (with_reducible first | refine W.seq ?_ | refine W.region ?_ | refine W.exit ?_ | refine W.ret ?_ | refine SeqQ.normal ?_ | refine SeqQ.exit ?_ | refine BlockQ.exit ?_ | refine LoopQ.exit ?_) | refine W.opn rfl op_lss rfl ?_ | refine W.opn (v := .int _ _) rfl rfl rfl ?_ | refine W.nil ?_ | refine W.cond (x := false) rfl (fun hc => by cases hc) (fun _ => ?_) | rw [decide_eq_false (by first | assumption | omega)])
    refine q _ _ X (Iff.intro (fun h => by omega) (fun h => ?_))
    obtain ⟨d, hd, hp⟩ := h
    obtain ⟨j, hj⟩ := List.getElem?_of_mem hd
    exact absurd hp (hn j (by have := (List.getElem?_eq_some_iff.1 hj).1; omega) d hj)
theorem conF_int {h : Heap} {tm : Tm} {Q : R → Prop} {v : CV} {l : List Int} (f : Nat) (first caps : List CV) (P : Int → Prop) (sl : Sl h v l) (hm : l.length ≤ 1099511627776)
    (hf : ∀ d, d ∈ l → ∀ (tm : Tm) (h' : Heap) (Q : R → Prop), Ext h h' → (∀ h2 (b : Bool), Ext h' h2 → (b = true ↔ P d) → Q (.val (.bool b) h2)) → W E1 (.call (.fn f first caps) [.int .i64 d]) tm h' Q)
    (q : ∀ h' (b : Bool), Ext h h' → (b = true ↔ ∃ d, d ∈ l ∧ P d) → Q (.val (.bool b) h')) : W E1 (.call (.fn 77 [] []) [v, .fn f first caps]) tm h Q := by
  refine W.fn (s := fnOf Tryz.f77) rfl rfl rfl rfl ?_
  repeat (first | (with_reducible first | refine W.seq ?_ | refine W.region ?_ | refine SeqQ.normal ?_) | refine W.opn (v := .bool _) rfl rfl rfl ?_ | refine W.opn rfl rfl rfl ?_ | refine W.nil ?_)
  refine W.call rfl rfl rfl (idxF_int f first caps P sl hm hf fun h' r X hr => ?_)
  by_cases c : 0 ≤ r
  · repeat (first | (with_reducible first | refine W.ret ?_ | refine SeqQ.normal ?_ | refine CallQ.val ?_) | refine W.opn rfl op_leq rfl ?_ | refine W.opn (v := .bool _) rfl rfl rfl ?_ | refine W.nil ?_ | rw [decide_eq_true (by first | assumption | omega)])
    exact q h' true X (Iff.intro (fun _ => hr.1 c) (fun _ => rfl))
  · repeat (first | (with_reducible first | refine W.ret ?_ | refine SeqQ.normal ?_ | refine CallQ.val ?_) | refine W.opn rfl op_leq rfl ?_ | refine W.opn (v := .bool _) rfl rfl rfl ?_ | refine W.nil ?_ | rw [decide_eq_false (by first | assumption | omega)])
    exact q h' false X (Iff.intro (fun h => by cases h) (fun h => absurd (hr.2 h) c))
theorem idxF_route {h : Heap} {tm : Tm} {Q : R → Prop} {v : CV} {l : List RouteS} (f : Nat) (first caps : List CV) (P : RouteS → Prop) (sl : Sl h v l) (hm : l.length ≤ 1099511627776)
    (hf : ∀ d, d ∈ l → ∀ e, Rp.R h e d → ∀ (tm : Tm) (h' : Heap) (Q : R → Prop), Ext h h' → (∀ h2 (b : Bool), Ext h' h2 → (b = true ↔ P d) → Q (.val (.bool b) h2)) → W E1 (.call (.fn f first caps) [.agg e]) tm h' Q)
    (q : ∀ h' (r : Int), Ext h h' → (0 ≤ r ↔ ∃ d, d ∈ l ∧ P d) → Q (.val (.int .i64 r) h')) : W E1 (.call (.fn 148 [] []) [v, .fn f first caps]) tm h Q := by
  refine W.fn (s := fnOf Tryz.f148) rfl rfl rfl rfl ?_
  repeat (first | (with_reducible first | refine W.seq ?_ | refine W.block ?_ | refine W.region ?_ | refine SeqQ.normal ?_) | refine W.lnS (by assumption) rfl rfl rfl rfl rfl rfl rfl rfl ?_ | refine W.opn (v := .int _ _) rfl rfl rfl ?_ | refine W.opn rfl rfl rfl ?_ | refine W.nil ?_)
  refine W.loop (σ := Nat) (fun k tm h' => Ext h h' ∧ tm.look 0 = v ∧ tm.look 1 = .fn f first caps ∧ tm.look 7 = .int .i64 (l.length : Int) ∧ tm.look 8 = .int .i64 (k : Int) ∧ k ≤ l.length ∧ ∀ j, j < k → ∀ a, l[j]? = some a → ¬ P a) (fun k => l.length - k) ?_ (s := 0)
    ⟨Ext.refl _, rfl, rfl, rfl, rfl, Nat.zero_le _, fun j hj => by omega⟩
  rintro k tm h' ⟨X, w0, w1, w7, w8, hk, hn⟩
  obtain ⟨T, rfl⟩ : ∃ T : Tm, tm = ((((T.set 0 (some (v))).set 1 (some (.fn f first caps))).set 7 (some (.int .i64 (l.length : Int)))).set 8 (some (.int .i64 (k : Int)))) := ⟨tm, (show tm = ((((tm.set 0 (some (tm.look 0))).set 1 (some (tm.look 1))).set 7 (some (tm.look 7))).set 8 (some (tm.look 8))) by rfl).trans (by rw [w0, w1, w7, w8])⟩
  clear w0 w1 w7 w8
  by_cases c1 : k < l.length
  · repeat (first | (with_reducible first | refine W.seq ?_ | refine W.block ?_ | refine W.region ?_ | refine W.skip ?_ | refine SeqQ.normal ?_) | refine W.opn rfl op_lss rfl ?_ | refine W.opn (v := .int _ _) rfl rfl rfl ?_ | refine W.opn rfl rfl rfl ?_ | refine W.nil ?_ | refine W.cond (x := true) rfl (fun _ => ?_) (fun hc => by cases hc) | rw [decide_eq_true (by first | assumption | omega)])
    refine W.ixR (by assumption) c1 rfl rfl rfl rfl rfl rfl rfl fun i_ o_ e L_ r_ => ?_
    skip
    have hlen := Rp.len r_
    repeat (first | refine W.ldw (by assumption) (by (repeat (first | assumption | exact Ext.refl _ | refine Ext.trans ?_ (by assumption))); done) rfl rfl rfl rfl (by first | rfl | assumption) rfl rfl ?_)
    refine W.call rfl rfl rfl (hf l[k] (List.getElem_mem c1) e r_ _ _ _ X fun h2 b X2 hb => ?_)
    cases b
    · repeat (first | (with_reducible first | refine W.region ?_ | refine W.skip ?_ | refine SeqQ.normal ?_ | refine BlockQ.normal ?_ | refine CallQ.val ?_) | refine W.opn rfl (op_add (by omega) (by omega)) rfl ?_ | refine W.opn (v := .int _ _) rfl rfl rfl ?_ | refine W.nil ?_ | refine W.cond (x := false) rfl (fun hc => by cases hc) (fun _ => ?_))
      refine ⟨k + 1, lessN c1, X.trans X2, rfl, rfl, rfl, rfl, c1, fun j hj a ha hp => ?_⟩
      by_cases e : j = k
      · subst e
        rw [List.getElem?_eq_getElem c1] at ha
        cases ha
        cases hb.2 hp
      · exact hn j (by omega) a ha hp
    · repeat (first | (with_reducible first | refine W.seq ?_ | refine W.region ?_ | refine W.ret ?_ | refine SeqQ.normal ?_ | refine SeqQ.ret ?_ | refine BlockQ.ret ?_ | refine CallQ.val ?_ | refine LoopQ.ret ?_) | refine W.opn (v := .int _ _) rfl rfl rfl ?_ | refine W.nil ?_ | refine W.cond (x := true) rfl (fun _ => ?_) (fun hc => by cases hc))
      exact q _ _ (X.trans X2) (Iff.intro (fun _ => ⟨l[k], List.getElem_mem c1, hb.1 rfl⟩) (fun _ => by omega))
  · repeat (first | (with_reducible first | refine W.seq ?_ | refine W.region ?_ | refine W.exit ?_ | refine W.ret ?_ | refine SeqQ.normal ?_ | refine SeqQ.exit ?_ | refine BlockQ.exit ?_ | refine LoopQ.exit ?_) | refine W.opn rfl op_lss rfl ?_ | refine W.opn (v := .int _ _) rfl rfl rfl ?_ | refine W.nil ?_ | refine W.cond (x := false) rfl (fun hc => by cases hc) (fun _ => ?_) | rw [decide_eq_false (by first | assumption | omega)])
    refine q _ _ X (Iff.intro (fun h => by omega) (fun h => ?_))
    obtain ⟨d, hd, hp⟩ := h
    obtain ⟨j, hj⟩ := List.getElem?_of_mem hd
    exact absurd hp (hn j (by have := (List.getElem?_eq_some_iff.1 hj).1; omega) d hj)
theorem conF_route {h : Heap} {tm : Tm} {Q : R → Prop} {v : CV} {l : List RouteS} (f : Nat) (first caps : List CV) (P : RouteS → Prop) (sl : Sl h v l) (hm : l.length ≤ 1099511627776)
    (hf : ∀ d, d ∈ l → ∀ e, Rp.R h e d → ∀ (tm : Tm) (h' : Heap) (Q : R → Prop), Ext h h' → (∀ h2 (b : Bool), Ext h' h2 → (b = true ↔ P d) → Q (.val (.bool b) h2)) → W E1 (.call (.fn f first caps) [.agg e]) tm h' Q)
    (q : ∀ h' (b : Bool), Ext h h' → (b = true ↔ ∃ d, d ∈ l ∧ P d) → Q (.val (.bool b) h')) : W E1 (.call (.fn 81 [] []) [v, .fn f first caps]) tm h Q := by
  refine W.fn (s := fnOf Tryz.f81) rfl rfl rfl rfl ?_
  repeat (first | (with_reducible first | refine W.seq ?_ | refine W.region ?_ | refine SeqQ.normal ?_) | refine W.opn (v := .bool _) rfl rfl rfl ?_ | refine W.opn rfl rfl rfl ?_ | refine W.nil ?_)
  refine W.call rfl rfl rfl (idxF_route f first caps P sl hm hf fun h' r X hr => ?_)
  by_cases c : 0 ≤ r
  · repeat (first | (with_reducible first | refine W.ret ?_ | refine SeqQ.normal ?_ | refine CallQ.val ?_) | refine W.opn rfl op_leq rfl ?_ | refine W.opn (v := .bool _) rfl rfl rfl ?_ | refine W.nil ?_ | rw [decide_eq_true (by first | assumption | omega)])
    exact q h' true X (Iff.intro (fun _ => hr.1 c) (fun _ => rfl))
  · repeat (first | (with_reducible first | refine W.ret ?_ | refine SeqQ.normal ?_ | refine CallQ.val ?_) | refine W.opn rfl op_leq rfl ?_ | refine W.opn (v := .bool _) rfl rfl rfl ?_ | refine W.nil ?_ | rw [decide_eq_false (by first | assumption | omega)])
    exact q h' false X (Iff.intro (fun h => by cases h) (fun h => absurd (hr.2 h) c))
end
end Go.Proofs.YtmgpjfnlciapkaaGreatDoor
