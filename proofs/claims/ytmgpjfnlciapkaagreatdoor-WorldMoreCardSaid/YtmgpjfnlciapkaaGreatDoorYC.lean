/- Names of things: what the program's functions over texts come to. No condition but that the table of spaces lies where it does. -/
import Derived.Test.YtmgpjfnlciapkaaGreatDoorYA
set_option linter.unusedVariables false
set_option linter.unusedSimpArgs false
namespace Go.Proofs.YtmgpjfnlciapkaaGreatDoor
open Go Go.CM Go.CM.Tt
noncomputable section
set_option maxHeartbeats 4000000
def RH (h : Heap) : Prop := rowsHold h rows = true ∧ ∀ r ∈ rows, r.1 < h.next
theorem RH.ext {h h' : Heap} (r : RH h) (x : Ext h h') : RH h' := ⟨rowsHold_of (fun q hq => x.old _ (r.2 q hq)) r.1, fun q hq => Nat.lt_of_lt_of_le (r.2 q hq) x.next⟩
theorem class_w {h : Heap} {tm : Tm} {Q : R → Prop} (c : Int) (q : Q (.val (.int .i64 (classI c)) h)) : W E1 (.call (.fn 141 [] []) [.int .u8 c]) tm h Q := by
  refine W.fn (s := fnOf Tryz.f141) rfl rfl rfl rfl ?_
  unfold classI at q
  by_cases c1 : 97 ≤ c ∧ c ≤ 122
  · rw [if_pos c1] at q
    repeat (first | (with_reducible first | refine W.seq ?_ | refine W.block ?_ | refine W.region ?_ | refine W.ret ?_ | refine SeqQ.normal ?_ | refine SeqQ.ret ?_ | refine BlockQ.ret ?_) | refine W.opn rfl op_leq rfl ?_ | refine W.opn (v := .int _ _) rfl rfl rfl ?_ | refine W.opn (v := .bool _) rfl rfl rfl ?_ | refine W.nil ?_ | refine W.cond (x := true) rfl (fun _ => ?_) (fun hc => by cases hc) | rw [decide_eq_true (by first | assumption | omega)])
    exact q
  rw [if_neg c1] at q
  by_cases c2 : 48 ≤ c ∧ c ≤ 57
  · rw [if_pos c2] at q
    repeat (first | (with_reducible first | refine W.seq ?_ | refine W.block ?_ | refine W.region ?_ | refine W.ret ?_ | refine SeqQ.normal ?_ | refine SeqQ.ret ?_ | refine BlockQ.ret ?_) | refine W.offn rfl rfl ?_ | refine W.opn rfl op_leq rfl ?_ | refine W.opn (v := .int _ _) rfl rfl rfl ?_ | refine W.opn (v := .bool _) rfl rfl rfl ?_ | refine W.nil ?_ | refine W.cond (x := true) rfl (fun _ => ?_) (fun hc => by cases hc) | refine W.cond (x := false) rfl (fun hc => by cases hc) (fun _ => ?_) | rw [decide_eq_true (by first | assumption | omega)] | rw [decide_eq_false (by first | assumption | omega)])
    exact q
  rw [if_neg c2] at q
  by_cases c3 : c = 45
  · rw [if_pos (.inl c3)] at q
    repeat (first | (with_reducible first | refine W.seq ?_ | refine W.block ?_ | refine W.region ?_ | refine W.ret ?_ | refine SeqQ.normal ?_ | refine SeqQ.ret ?_ | refine BlockQ.ret ?_) | refine W.offn rfl rfl ?_ | refine W.opn rfl op_leq rfl ?_ | refine W.opn rfl op_eql rfl ?_ | refine W.opn (v := .int _ _) rfl rfl rfl ?_ | refine W.opn (v := .bool _) rfl rfl rfl ?_ | refine W.nil ?_ | refine W.cond (x := true) rfl (fun _ => ?_) (fun hc => by cases hc) | refine W.cond (x := false) rfl (fun hc => by cases hc) (fun _ => ?_) | rw [decide_eq_true (by first | assumption | omega)] | rw [decide_eq_false (by first | assumption | omega)])
    exact q
  by_cases c4 : c = 95
  · rw [if_pos (.inr c4)] at q
    repeat (first | (with_reducible first | refine W.seq ?_ | refine W.block ?_ | refine W.region ?_ | refine W.ret ?_ | refine SeqQ.normal ?_ | refine SeqQ.ret ?_ | refine BlockQ.ret ?_) | refine W.offn rfl rfl ?_ | refine W.opn rfl op_leq rfl ?_ | refine W.opn rfl op_eql rfl ?_ | refine W.opn (v := .int _ _) rfl rfl rfl ?_ | refine W.opn (v := .bool _) rfl rfl rfl ?_ | refine W.nil ?_ | refine W.cond (x := true) rfl (fun _ => ?_) (fun hc => by cases hc) | refine W.cond (x := false) rfl (fun hc => by cases hc) (fun _ => ?_) | rw [decide_eq_true (by first | assumption | omega)] | rw [decide_eq_false (by first | assumption | omega)])
    exact q
  rw [if_neg (fun h => h.elim c3 c4)] at q
  by_cases c5 : 97 ≤ c
  · repeat (first | (with_reducible first | refine W.seq ?_ | refine W.block ?_ | refine W.region ?_ | refine W.skip ?_ | refine W.ret ?_ | refine SeqQ.normal ?_ | refine BlockQ.normal ?_) | refine W.opn rfl op_leq rfl ?_ | refine W.opn rfl op_eql rfl ?_ | refine W.opn (v := .int _ _) rfl rfl rfl ?_ | refine W.opn (v := .bool _) rfl rfl rfl ?_ | refine W.nil ?_ | refine W.cond (x := false) rfl (fun hc => by cases hc) (fun _ => ?_) | rw [decide_eq_true (by first | assumption | omega)] | rw [decide_eq_false (by first | assumption | omega)])
    exact q
  by_cases c6 : 48 ≤ c
  · repeat (first | (with_reducible first | refine W.seq ?_ | refine W.block ?_ | refine W.region ?_ | refine W.skip ?_ | refine W.ret ?_ | refine SeqQ.normal ?_ | refine BlockQ.normal ?_) | refine W.offn rfl rfl ?_ | refine W.opn rfl op_leq rfl ?_ | refine W.opn rfl op_eql rfl ?_ | refine W.opn (v := .int _ _) rfl rfl rfl ?_ | refine W.opn (v := .bool _) rfl rfl rfl ?_ | refine W.nil ?_ | refine W.cond (x := false) rfl (fun hc => by cases hc) (fun _ => ?_) | rw [decide_eq_true (by first | assumption | omega)] | rw [decide_eq_false (by first | assumption | omega)])
    exact q
  repeat (first | (with_reducible first | refine W.seq ?_ | refine W.block ?_ | refine W.region ?_ | refine W.skip ?_ | refine W.ret ?_ | refine SeqQ.normal ?_ | refine BlockQ.normal ?_) | refine W.offn rfl rfl ?_ | refine W.opn rfl op_leq rfl ?_ | refine W.opn rfl op_eql rfl ?_ | refine W.opn (v := .int _ _) rfl rfl rfl ?_ | refine W.opn (v := .bool _) rfl rfl rfl ?_ | refine W.nil ?_ | refine W.cond (x := false) rfl (fun hc => by cases hc) (fun _ => ?_) | rw [decide_eq_false (by first | assumption | omega)])
  exact q
theorem index_w {h : Heap} {tm : Tm} {Q : R → Prop} {v : CV} {l : List Str} (s : Str) (sl : Sl h v l) (hm : l.length ≤ 1099511627776)
    (q : Q (.val (.int .i64 (place l s)) h)) : W E1 (.call (.fn 115 [] []) [v, .str s]) tm h Q := by
  refine W.fn (s := fnOf Tryz.f115) rfl rfl rfl rfl ?_
  repeat (first | (with_reducible first | refine W.seq ?_ | refine W.block ?_ | refine W.region ?_ | refine SeqQ.normal ?_) | refine W.lnS (by assumption) rfl rfl rfl rfl rfl rfl rfl rfl ?_ | refine W.opn (v := .int _ _) rfl rfl rfl ?_ | refine W.opn rfl rfl rfl ?_ | refine W.nil ?_)
  refine W.loop (σ := Nat) (fun k tm h' => h' = h ∧ tm.look 0 = v ∧ tm.look 1 = .str s ∧ tm.look 7 = .int .i64 (l.length : Int) ∧ tm.look 8 = .int .i64 (k : Int) ∧ k ≤ l.length ∧ ∀ j, j < k → ∀ a, l[j]? = some a → a ≠ s) (fun k => l.length - k) ?_ (s := 0)
    ⟨rfl, rfl, rfl, rfl, rfl, Nat.zero_le _, fun j hj => by omega⟩
  rintro k tm h' ⟨rfl, w0, w1, w7, w8, hk, hn⟩
  obtain ⟨T, rfl⟩ : ∃ T : Tm, tm = ((((T.set 0 (some (v))).set 1 (some (.str s))).set 7 (some (.int .i64 (l.length : Int)))).set 8 (some (.int .i64 (k : Int)))) := ⟨tm, (show tm = ((((tm.set 0 (some (tm.look 0))).set 1 (some (tm.look 1))).set 7 (some (tm.look 7))).set 8 (some (tm.look 8))) by rfl).trans (by rw [w0, w1, w7, w8])⟩
  clear w0 w1 w7 w8
  by_cases c1 : k < l.length
  · repeat (first | (with_reducible first | refine W.seq ?_ | refine W.block ?_ | refine W.region ?_ | refine W.skip ?_ | refine SeqQ.normal ?_) | refine W.opn rfl op_lss rfl ?_ | refine W.opn (v := .int _ _) rfl rfl rfl ?_ | refine W.opn rfl rfl rfl ?_ | refine W.nil ?_ | refine W.cond (x := true) rfl (fun _ => ?_) (fun hc => by cases hc) | rw [decide_eq_true (by first | assumption | omega)])
    refine W.ixF (by assumption) (by first | assumption | omega) rfl rfl rfl rfl rfl rfl rfl fun i_ o_ L_ => ?_
    by_cases c2 : s = l[k]
    · repeat (first | (with_reducible first | refine W.seq ?_ | refine W.region ?_ | refine W.ret ?_ | refine SeqQ.normal ?_ | refine SeqQ.ret ?_ | refine BlockQ.ret ?_ | refine LoopQ.ret ?_) | refine W.opn rfl op_seq rfl ?_ | refine W.opn (v := .int _ _) rfl rfl rfl ?_ | refine W.nil ?_ | refine W.ld0 (by assumption) (by (repeat (first | assumption | exact Ext.refl _ | refine Ext.trans ?_ (by assumption))); done) rfl rfl rfl rfl rfl rfl rfl rfl ?_ | refine W.cond (x := true) rfl (fun _ => ?_) (fun hc => by cases hc) | rw [decide_eq_true (by first | assumption | omega)])
      rw [place_some (l := l) (s := s) (k := k) (by rw [List.getElem?_eq_getElem c1, ← c2]) hn] at q
      exact q
    · repeat (first | (with_reducible first | refine W.region ?_ | refine W.skip ?_ | refine SeqQ.normal ?_ | refine BlockQ.normal ?_) | refine W.opn rfl op_seq rfl ?_ | refine W.opn rfl (op_add (by omega) (by omega)) rfl ?_ | refine W.opn (v := .int _ _) rfl rfl rfl ?_ | refine W.nil ?_ | refine W.ld0 (by assumption) (by (repeat (first | assumption | exact Ext.refl _ | refine Ext.trans ?_ (by assumption))); done) rfl rfl rfl rfl rfl rfl rfl rfl ?_ | refine W.cond (x := false) rfl (fun hc => by cases hc) (fun _ => ?_) | rw [decide_eq_false (by first | assumption | omega)])
      refine ⟨k + 1, lessN c1, rfl, rfl, rfl, rfl, rfl, c1, fun j hj a ha => ?_⟩
      by_cases e : j = k
      · subst e
        rw [List.getElem?_eq_getElem c1] at ha
        cases ha
        exact fun h => c2 h.symm
      · exact hn j (by omega) a ha
  · repeat (first | (with_reducible first | refine W.seq ?_ | refine W.region ?_ | refine W.exit ?_ | refine W.ret ?_ | refine SeqQ.normal ?_ | refine SeqQ.exit ?_ | refine BlockQ.exit ?_ | refine LoopQ.exit ?_) | refine W.opn rfl op_lss rfl ?_ | refine W.opn (v := .int _ _) rfl rfl rfl ?_ | refine W.nil ?_ | refine W.cond (x := false) rfl (fun hc => by cases hc) (fun _ => ?_) | rw [decide_eq_false (by first | assumption | omega)])
    rw [place_none (l := l) (s := s) fun j a ha => hn j (by have := (List.getElem?_eq_some_iff.1 ha).1; omega) a ha] at q
    exact q
theorem contains_w {h : Heap} {tm : Tm} {Q : R → Prop} {v : CV} {l : List Str} (s : Str) (sl : Sl h v l) (hm : l.length ≤ 1099511627776)
    (q : ∀ b : Bool, (b = true ↔ s ∈ l) → Q (.val (.bool b) h)) : W E1 (.call (.fn 161 [] []) [v, .str s]) tm h Q := by
  refine W.fn (s := fnOf Tryz.f161) rfl rfl rfl rfl ?_
  repeat (first | (with_reducible first | refine W.seq ?_ | refine W.region ?_ | refine SeqQ.normal ?_) | refine W.opn (v := .bool _) rfl rfl rfl ?_ | refine W.opn rfl rfl rfl ?_ | refine W.nil ?_)
  refine W.call rfl rfl rfl (index_w s sl hm ?_)
  by_cases c : 0 ≤ place l s
  · repeat (first | (with_reducible first | refine W.ret ?_ | refine SeqQ.normal ?_ | refine CallQ.val ?_) | refine W.opn rfl op_leq rfl ?_ | refine W.opn (v := .bool _) rfl rfl rfl ?_ | refine W.nil ?_ | rw [decide_eq_true (by first | assumption | omega)])
    exact q true (Iff.intro (fun _ => place_mem.1 c) (fun _ => rfl))
  · repeat (first | (with_reducible first | refine W.ret ?_ | refine SeqQ.normal ?_ | refine CallQ.val ?_) | refine W.opn rfl op_leq rfl ?_ | refine W.opn (v := .bool _) rfl rfl rfl ?_ | refine W.nil ?_ | rw [decide_eq_false (by first | assumption | omega)])
    exact q false (Iff.intro (fun h => by cases h) (fun h => absurd (place_mem.2 h) c))
theorem reserved_w {h : Heap} {tm : Tm} {Q : R → Prop} (s : Str) (rh : RH h)
    (q : ∀ h' (b : Bool), Ext h h' → (b = true ↔ s ∈ reserved) → Q (.val (.bool b) h')) : W E1 (.call (.fn 142 [] []) [.str s]) tm h Q := by
  refine W.fn (s := fnOf Tryz.f142) rfl rfl rfl rfl ?_
  repeat (first | (with_reducible first | refine W.seq ?_ | refine W.region ?_ | refine SeqQ.normal ?_) | refine W.opn (v := .bool _) rfl rfl rfl ?_ | refine W.nil ?_)
  refine W.call rfl rfl rfl (W.knownN (v := .slice (some (h.next, 0)) 15 15 0) (news := [reserved.map fun s => .str s]) rfl rh.1 ?_)
  have X : Ext h (kAdd h [reserved.map fun s => .str s]) := kAdd_ext _ _
  have sl : Sl (kAdd h [reserved.map fun s => .str s]) (.slice (some (h.next, 0)) 15 15 0) reserved := by
    refine Sl.of_map Flat.iff (.inr (.inr ⟨h.next, 0, 15, 0, _, false, rfl, Nat.lt_succ_self _, new_same _ _, fun j e he => ?_, Nat.le_refl _, .inl rfl⟩))
    have hz : ∀ e ∈ reserved.map (Flat.enc : Str → List CV), e.length = 1 := fun e he => by
      obtain ⟨c, _, rfl⟩ := List.mem_map.1 he
      rfl
    refine ⟨hz e (List.mem_of_getElem? he), ?_⟩
    exact flat_cut hz he
  generalize kAdd h [reserved.map fun s => .str s] = H at X sl
  repeat (first | (with_reducible first | refine CallQ.val ?_) | refine W.opn rfl rfl rfl ?_)
  refine W.call rfl rfl rfl (contains_w s sl (by decide) fun b hb => ?_)
  repeat (first | (with_reducible first | refine W.ret ?_ | refine SeqQ.normal ?_ | refine CallQ.val ?_) | refine W.opn (v := .bool _) rfl rfl rfl ?_ | refine W.nil ?_)
  exact q H b X hb
theorem odd_w {h : Heap} {tm : Tm} {Q : R → Prop} (c : Int) (q : Q (.val (.bool (decide (c ≠ 0))) h)) : W E1 (.call (.fn 144 [] []) [.int .i64 c]) tm h Q := by
  refine W.fn (s := fnOf Tryz.f144) rfl rfl rfl rfl ?_
  repeat (first | (with_reducible first | refine W.seq ?_ | refine W.region ?_ | refine W.ret ?_ | refine SeqQ.normal ?_) | refine W.opn rfl op_neq rfl ?_ | refine W.opn (v := .int _ _) rfl rfl rfl ?_ | refine W.opn (v := .bool _) rfl rfl rfl ?_ | refine W.nil ?_)
  exact q
theorem run_w {h : Heap} {tm : Tm} {Q : R → Prop} (s : Str) (hm : s.length ≤ 24)
    (q : ∀ n : Nat, n ≤ s.length → (∀ j c, j < n → s[j]? = some c → classB c.toNat ≠ 0) → (∀ c, s[n]? = some c → classB c.toNat = 0) → Q (.val (.int .i64 (n : Int)) h)) : W E1 (.call (.fn 143 [] []) [.str s, .fn 144 [] []]) tm h Q := by
  refine W.fn (s := fnOf Tryz.f143) rfl rfl rfl rfl ?_
  repeat (first | (with_reducible first | refine W.seq ?_ | refine W.block ?_ | refine W.region ?_ | refine SeqQ.normal ?_) | refine W.opn (v := .int _ _) rfl rfl rfl ?_ | refine W.nil ?_)
  refine W.loop (σ := Nat) (fun k tm h' => h' = h ∧ tm.look 0 = .str s ∧ tm.look 1 = .fn 144 [] [] ∧ tm.look 5 = .int .i64 (k : Int) ∧ k ≤ s.length ∧ ∀ j c, j < k → s[j]? = some c → classB c.toNat ≠ 0) (fun k => s.length - k) ?_ (s := 0)
    ⟨rfl, rfl, rfl, rfl, Nat.zero_le _, fun j c hj => by omega⟩
  rintro k tm h' ⟨rfl, w0, w1, w5, hk, hn⟩
  obtain ⟨T, rfl⟩ : ∃ T : Tm, tm = (((T.set 0 (some (.str s))).set 1 (some (.fn 144 [] []))).set 5 (some (.int .i64 (k : Int)))) := ⟨tm, (show tm = (((tm.set 0 (some (tm.look 0))).set 1 (some (tm.look 1))).set 5 (some (tm.look 5))) by rfl).trans (by rw [w0, w1, w5])⟩
  clear w0 w1 w5
  by_cases c1 : k < s.length
  · repeat (first | (with_reducible first | refine W.seq ?_ | refine W.region ?_) | refine W.lns rfl rfl rfl rfl rfl rfl rfl rfl ?_ | refine W.opn rfl op_lss rfl ?_ | refine W.opn (v := .int _ _) rfl rfl rfl ?_ | refine W.opn (v := .bool _) rfl rfl rfl ?_ | refine W.opn rfl rfl rfl ?_ | rw [decide_eq_true (by first | assumption | omega)])
    refine W.ixs (j := k) (List.getElem?_eq_getElem c1) rfl rfl rfl rfl rfl rfl rfl ?_
    skip
    refine W.call rfl rfl rfl (class_w _ ?_)
    repeat (first | (with_reducible first | refine CallQ.val ?_))
    refine W.call rfl rfl rfl (odd_w _ ?_)
    rw [classI_nat]
    by_cases c2 : classB s[k].toNat ≠ 0
    · repeat (first | (with_reducible first | refine W.block ?_ | refine W.region ?_ | refine W.skip ?_ | refine SeqQ.normal ?_ | refine BlockQ.normal ?_ | refine CallQ.val ?_) | refine W.opn rfl (op_add (by omega) (by omega)) rfl ?_ | refine W.opn (v := .int _ _) rfl rfl rfl ?_ | refine W.opn (v := .bool _) rfl rfl rfl ?_ | refine W.nil ?_ | refine W.cond (x := true) rfl (fun _ => ?_) (fun hc => by cases hc) | rw [decide_eq_true (by first | assumption | omega)])
      refine ⟨k + 1, lessN c1, rfl, rfl, rfl, rfl, c1, fun j c hj hc => ?_⟩
      by_cases e : j = k
      · subst e
        rw [List.getElem?_eq_getElem c1] at hc
        cases hc
        exact c2
      · exact hn j c (by omega) hc
    · repeat (first | (with_reducible first | refine W.seq ?_ | refine W.region ?_ | refine W.exit ?_ | refine W.ret ?_ | refine SeqQ.normal ?_ | refine SeqQ.exit ?_ | refine BlockQ.exit ?_ | refine LoopQ.exit ?_ | refine CallQ.val ?_) | refine W.opn (v := .int _ _) rfl rfl rfl ?_ | refine W.opn (v := .bool _) rfl rfl rfl ?_ | refine W.nil ?_ | refine W.cond (x := false) rfl (fun hc => by cases hc) (fun _ => ?_) | rw [decide_eq_false (by first | assumption | omega)])
      refine q k (by omega) hn fun c hc => ?_
      rw [List.getElem?_eq_getElem c1] at hc
      cases hc
      exact Classical.byContradiction c2
  · repeat (first | (with_reducible first | refine W.seq ?_ | refine W.region ?_ | refine W.exit ?_ | refine W.ret ?_ | refine SeqQ.normal ?_ | refine SeqQ.exit ?_ | refine BlockQ.exit ?_ | refine LoopQ.exit ?_) | refine W.offn rfl rfl ?_ | refine W.lns rfl rfl rfl rfl rfl rfl rfl rfl ?_ | refine W.opn rfl op_lss rfl ?_ | refine W.opn (v := .int _ _) rfl rfl rfl ?_ | refine W.opn (v := .bool _) rfl rfl rfl ?_ | refine W.opn rfl rfl rfl ?_ | refine W.nil ?_ | refine W.cond (x := false) rfl (fun hc => by cases hc) (fun _ => ?_) | rw [decide_eq_false (by first | assumption | omega)])
    exact q k hk hn fun c hc => by
      have := (List.getElem?_eq_some_iff.1 hc).1
      omega
theorem name_w {h : Heap} {tm : Tm} {Q : R → Prop} (s : Str) (rh : RH h)
    (q : ∀ h' (b : Bool), Ext h h' → (b = true ↔ NameOk s) → Q (.val (.bool b) h')) : W E1 (.call (.fn 76 [] []) [.str s]) tm h Q := by
  refine W.fn (s := fnOf Tryz.f76) rfl rfl rfl rfl ?_
  by_cases c0 : s = []
  · repeat (first | (with_reducible first | refine W.seq ?_ | refine W.region ?_ | refine W.ret ?_ | refine SeqQ.normal ?_ | refine SeqQ.ret ?_) | refine W.offn rfl rfl ?_ | refine W.opn rfl op_seq rfl ?_ | refine W.opn (v := .bool _) rfl rfl rfl ?_ | refine W.opn rfl rfl rfl ?_ | refine W.nil ?_ | refine W.cond (x := true) rfl (fun _ => ?_) (fun hc => by cases hc) | rw [decide_eq_true (by first | assumption | omega)])
    exact q h false (Ext.refl _) (Iff.intro (fun h => by cases h) (fun h => absurd c0 h.1))
  by_cases c1 : 24 < s.length
  · repeat (first | (with_reducible first | refine W.seq ?_ | refine W.region ?_ | refine W.ret ?_ | refine SeqQ.normal ?_ | refine SeqQ.ret ?_) | refine W.offn rfl rfl ?_ | refine W.lns rfl rfl rfl rfl rfl rfl rfl rfl ?_ | refine W.opn rfl op_seq rfl ?_ | refine W.opn rfl op_lss rfl ?_ | refine W.opn (v := .bool _) rfl rfl rfl ?_ | refine W.opn rfl rfl rfl ?_ | refine W.nil ?_ | refine W.cond (x := true) rfl (fun _ => ?_) (fun hc => by cases hc) | rw [decide_eq_true (by first | assumption | omega)] | rw [decide_eq_false (by first | assumption | omega)])
    exact q h false (Ext.refl _) (Iff.intro (fun h => by cases h) (fun h => by have := h.2.1; omega))
  have hpos : 0 < s.length := List.length_pos_iff.2 c0
  repeat (first | (with_reducible first | refine W.seq ?_ | refine W.region ?_ | refine SeqQ.normal ?_) | refine W.lns rfl rfl rfl rfl rfl rfl rfl rfl ?_ | refine W.opn rfl op_seq rfl ?_ | refine W.opn rfl op_lss rfl ?_ | refine W.opn (v := .bool _) rfl rfl rfl ?_ | refine W.opn rfl rfl rfl ?_ | refine W.nil ?_ | rw [decide_eq_false (by first | assumption | omega)])
  refine W.ixs (j := 0) (List.getElem?_eq_getElem hpos) rfl rfl rfl rfl rfl rfl rfl ?_
  skip
  refine W.call rfl rfl rfl (class_w _ ?_)
  rw [classI_nat]
  by_cases c2 : classB s[0].toNat ≠ 1
  · repeat (first | (with_reducible first | refine W.seq ?_ | refine W.region ?_ | refine W.ret ?_ | refine SeqQ.normal ?_ | refine SeqQ.ret ?_ | refine CallQ.val ?_) | refine W.offn rfl rfl ?_ | refine W.opn rfl op_neq rfl ?_ | refine W.opn (v := .bool _) rfl rfl rfl ?_ | refine W.nil ?_ | refine W.cond (x := true) rfl (fun _ => ?_) (fun hc => by cases hc) | rw [decide_eq_true (by first | assumption | omega)])
    exact q h false (Ext.refl _) (Iff.intro (fun h => by cases h) (fun h => absurd (h.2.2.1 _ (List.getElem?_eq_getElem hpos)) c2))
  repeat (first | (with_reducible first | refine CallQ.val ?_) | refine W.opn rfl op_neq rfl ?_ | refine W.opn (v := .bool _) rfl rfl rfl ?_ | refine W.opn rfl rfl rfl ?_ | rw [decide_eq_false (by first | assumption | omega)])
  refine W.call rfl rfl rfl (reserved_w s rh fun H b X hb => ?_)
  cases b
  · repeat (first | (with_reducible first | refine W.seq ?_ | refine W.region ?_ | refine W.skip ?_ | refine SeqQ.normal ?_ | refine CallQ.val ?_) | refine W.opn (v := .bool _) rfl rfl rfl ?_ | refine W.opn rfl rfl rfl ?_ | refine W.nil ?_ | refine W.cond (x := false) rfl (fun hc => by cases hc) (fun _ => ?_))
    refine W.call rfl rfl rfl (run_w s (by omega) fun n hn h1 h2 => ?_)
    by_cases c3 : (n : Int) = (s.length : Int)
    · repeat (first | (with_reducible first | refine W.ret ?_ | refine SeqQ.normal ?_ | refine CallQ.val ?_) | refine W.lns rfl rfl rfl rfl rfl rfl rfl rfl ?_ | refine W.opn rfl op_eql rfl ?_ | refine W.opn (v := .bool _) rfl rfl rfl ?_ | refine W.opn rfl rfl rfl ?_ | refine W.nil ?_ | rw [decide_eq_true (by first | assumption | omega)])
      refine q H true X (Iff.intro (fun _ => ⟨c0, by omega, fun c hc => ?_, fun hr => (by cases hb.2 hr), fun c hc => ?_⟩) (fun _ => rfl))
      · rw [List.getElem?_eq_getElem hpos] at hc
        cases hc
        exact Classical.byContradiction c2
      · obtain ⟨j, hj⟩ := List.getElem?_of_mem hc
        have := (List.getElem?_eq_some_iff.1 hj).1
        exact h1 j c (by omega) hj
    · repeat (first | (with_reducible first | refine W.ret ?_ | refine SeqQ.normal ?_ | refine CallQ.val ?_) | refine W.lns rfl rfl rfl rfl rfl rfl rfl rfl ?_ | refine W.opn rfl op_eql rfl ?_ | refine W.opn (v := .bool _) rfl rfl rfl ?_ | refine W.opn rfl rfl rfl ?_ | refine W.nil ?_ | rw [decide_eq_false (by first | assumption | omega)])
      refine q H false X (Iff.intro (fun h => by cases h) (fun h => ?_))
      have hlt : n < s.length := by omega
      exact absurd (h2 _ (List.getElem?_eq_getElem hlt)) (h.2.2.2.2 _ (List.getElem_mem hlt))
  · repeat (first | (with_reducible first | refine W.seq ?_ | refine W.region ?_ | refine W.ret ?_ | refine SeqQ.normal ?_ | refine SeqQ.ret ?_ | refine CallQ.val ?_) | refine W.opn (v := .bool _) rfl rfl rfl ?_ | refine W.nil ?_ | refine W.cond (x := true) rfl (fun _ => ?_) (fun hc => by cases hc))
    exact q H false X (Iff.intro (fun h => by cases h) (fun h => absurd (hb.1 rfl) h.2.2.2.1))
end
end Go.Proofs.YtmgpjfnlciapkaaGreatDoor
