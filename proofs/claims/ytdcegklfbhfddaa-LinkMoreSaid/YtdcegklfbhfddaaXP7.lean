/- The document's own union of two rows of windows. No condition. -/
import Derived.Test.YtdcegklfbhfddaaXP4
import Derived.Test.YtdcegklfbhfddaaXNo
namespace Go.Proofs.Ytdcegklfbhfddaa
set_option linter.unusedVariables false
set_option linter.unusedSimpArgs false
open Go Go.CM
noncomputable section
set_option maxHeartbeats 16000000

def mx (a b : Int) : Int := match intLe b a with
  | true => a
  | false => b
theorem mx_eq {a b : Int} : mx a b = if b ≤ a then a else b := by
  unfold mx
  rw [intLe_eq]
  by_cases h : b ≤ a
  · rw [if_pos h, decide_eq_true h]
  · rw [if_neg h, decide_eq_false h]
def K5 : Nat → Tag := fun _ => (5, 0)
theorem K5_upd {n : Nat} : updT K5 n (5, 0) = K5 := by
  funext k
  unfold updT
  split <;> rfl

theorem joined_w {h : Heap} {tm : Tm} {Q : R → Prop} {v : CV} {l : List (Int × Int)} (s : SlW h v l) (hm : l.length ≤ 1048576)
    (q : ∀ v' h', Ext h h' → OwnT h' K5 h.next 2 (5, 0) v' ((Wins.join l).map winC) → Q (.val v' h')) : W E1 (.call (.fn 25 [] []) [v]) tm h Q := by
  refine W.fn (s := fnOf Try.f25) rfl rfl rfl rfl ?_
  repeat (first | (with_reducible first | refine W.seq ?_ | refine W.block ?_ | refine W.region ?_ | refine W.draws ?_ | refine W.skip ?_ | refine W.exit ?_ | refine W.ret ?_ | refine SeqQ.normal ?_ | refine SeqQ.exit ?_ | refine SeqQ.ret ?_ | refine BlockQ.exit ?_ | refine BlockQ.normal ?_ | refine BlockQ.ret ?_ | refine BlockQ.other rfl ?_ | refine LoopQ.exit ?_ | refine CallQ.val ?_ | refine CutQ.normal ?_ | refine LoopQ.ret ?_) | refine W.offn rfl rfl ?_ | refine W.opn rfl op_lss rfl ?_ | refine W.opn rfl op_leq rfl ?_ | refine W.opn rfl op_eql rfl ?_ | refine W.opn rfl op_neq rfl ?_ | refine W.opn rfl (op_sub (by omega) (by omega)) rfl ?_ | refine W.opn rfl (op_add (by omega) (by omega)) rfl ?_ | refine W.opn (v := .int _ _) rfl rfl rfl ?_ | refine W.opn (v := .ptr _) rfl rfl rfl ?_ | refine W.opn (v := .bool _) rfl rfl rfl ?_ | refine W.opn (v := .slice _ _ _ _) rfl rfl rfl ?_ | refine W.opn (v := .agg _) rfl rfl rfl ?_ | refine W.opn (v := .tup _) rfl rfl rfl ?_ | refine W.opn rfl rfl rfl ?_ | refine W.offn rfl rfl ?_ | refine W.nil ?_)
  have hc : (Int.ofNat l.length) = (l.length : Int) := rfl
  refine W.loop (σ := Nat) (fun k tm h' => tm.look 0 = v ∧ tm.look 4 = .int .i64 (k : Int) ∧ (∃ vo ws, tm.look 3 = vo ∧ OwnT h' K5 h.next 2 (5, 0) vo (ws.map winC) ∧ ws.length ≤ k ∧ ((k = 0 ∧ ws = []) ∨ ∃ done p, ws = done ++ [p] ∧ Wins.join l = done ++ Wins.joinP p (l.drop k))) ∧ k ≤ l.length ∧ Ext h h') (fun k => l.length - k) ?_ (s := 0)
    ⟨rfl, rfl, ⟨_, [], rfl, OwnT.nil, Nat.le_refl _, .inl ⟨rfl, rfl⟩⟩, Nat.zero_le _, Ext.refl _⟩
  rintro k tm h' ⟨w0, w4, ⟨vo, ws, w3, hO, hwk, hst⟩, hk, X⟩
  obtain ⟨T, rfl⟩ : ∃ T : Tm, tm = (((T.set 0 (some (v))).set 3 (some (vo))).set 4 (some (.int .i64 (k : Int)))) := ⟨tm, (show tm = (((tm.set 0 (some (tm.look 0))).set 3 (some (tm.look 3))).set 4 (some (tm.look 4))) by rfl).trans (by rw [w0, w3, w4])⟩
  clear w0 w3 w4
  repeat (first | (with_reducible first | refine W.seq ?_ | refine W.block ?_ | refine W.region ?_ | refine W.draws ?_ | refine W.skip ?_ | refine W.exit ?_ | refine W.ret ?_ | refine SeqQ.normal ?_ | refine SeqQ.exit ?_ | refine SeqQ.ret ?_ | refine BlockQ.exit ?_ | refine BlockQ.normal ?_ | refine BlockQ.ret ?_ | refine BlockQ.other rfl ?_ | refine LoopQ.exit ?_ | refine CallQ.val ?_ | refine CutQ.normal ?_ | refine LoopQ.ret ?_) | refine W.offn rfl rfl ?_ | refine W.opn rfl op_lss rfl ?_ | refine W.opn rfl op_leq rfl ?_ | refine W.opn rfl op_eql rfl ?_ | refine W.opn rfl op_neq rfl ?_ | refine W.opn rfl (op_sub (by omega) (by omega)) rfl ?_ | refine W.opn rfl (op_add (by omega) (by omega)) rfl ?_ | refine W.opn (v := .int _ _) rfl rfl rfl ?_ | refine W.opn (v := .ptr _) rfl rfl rfl ?_ | refine W.opn (v := .bool _) rfl rfl rfl ?_ | refine W.opn (v := .slice _ _ _ _) rfl rfl rfl ?_ | refine W.opn (v := .agg _) rfl rfl rfl ?_ | refine W.opn (v := .tup _) rfl rfl rfl ?_ | refine W.opn rfl rfl rfl ?_ | refine W.offn rfl rfl ?_ | refine W.nil ?_)
  refine W.ln s.lenOf rfl rfl rfl rfl rfl rfl rfl rfl ?_
  repeat (first | (with_reducible first | refine W.seq ?_ | refine W.block ?_ | refine W.region ?_ | refine W.draws ?_ | refine W.skip ?_ | refine W.exit ?_ | refine W.ret ?_ | refine SeqQ.normal ?_ | refine SeqQ.exit ?_ | refine SeqQ.ret ?_ | refine BlockQ.exit ?_ | refine BlockQ.normal ?_ | refine BlockQ.ret ?_ | refine BlockQ.other rfl ?_ | refine LoopQ.exit ?_ | refine CallQ.val ?_ | refine CutQ.normal ?_ | refine LoopQ.ret ?_) | refine W.offn rfl rfl ?_ | refine W.opn rfl op_lss rfl ?_ | refine W.opn rfl op_leq rfl ?_ | refine W.opn rfl op_eql rfl ?_ | refine W.opn rfl op_neq rfl ?_ | refine W.opn rfl (op_sub (by omega) (by omega)) rfl ?_ | refine W.opn rfl (op_add (by omega) (by omega)) rfl ?_ | refine W.opn (v := .int _ _) rfl rfl rfl ?_ | refine W.opn (v := .ptr _) rfl rfl rfl ?_ | refine W.opn (v := .bool _) rfl rfl rfl ?_ | refine W.opn (v := .slice _ _ _ _) rfl rfl rfl ?_ | refine W.opn (v := .agg _) rfl rfl rfl ?_ | refine W.opn (v := .tup _) rfl rfl rfl ?_ | refine W.opn rfl rfl rfl ?_ | refine W.offn rfl rfl ?_ | refine W.nil ?_)
  by_cases k1 : (k : Int) < Int.ofNat l.length
  rotate_left
  · rw [decide_eq_false k1]
    have hkn : k = l.length := by omega
    refine W.cond (x := false) rfl (fun hc => by cases hc) (fun _ => ?_)
    repeat (first | (with_reducible first | refine W.seq ?_ | refine W.block ?_ | refine W.region ?_ | refine W.draws ?_ | refine W.skip ?_ | refine W.exit ?_ | refine W.ret ?_ | refine SeqQ.normal ?_ | refine SeqQ.exit ?_ | refine SeqQ.ret ?_ | refine BlockQ.exit ?_ | refine BlockQ.normal ?_ | refine BlockQ.ret ?_ | refine BlockQ.other rfl ?_ | refine LoopQ.exit ?_ | refine CallQ.val ?_ | refine CutQ.normal ?_ | refine LoopQ.ret ?_) | refine W.offn rfl rfl ?_ | refine W.opn rfl op_lss rfl ?_ | refine W.opn rfl op_leq rfl ?_ | refine W.opn rfl op_eql rfl ?_ | refine W.opn rfl op_neq rfl ?_ | refine W.opn rfl (op_sub (by omega) (by omega)) rfl ?_ | refine W.opn rfl (op_add (by omega) (by omega)) rfl ?_ | refine W.opn (v := .int _ _) rfl rfl rfl ?_ | refine W.opn (v := .ptr _) rfl rfl rfl ?_ | refine W.opn (v := .bool _) rfl rfl rfl ?_ | refine W.opn (v := .slice _ _ _ _) rfl rfl rfl ?_ | refine W.opn (v := .agg _) rfl rfl rfl ?_ | refine W.opn (v := .tup _) rfl rfl rfl ?_ | refine W.opn rfl rfl rfl ?_ | refine W.offn rfl rfl ?_ | refine W.nil ?_)
    refine q _ _ X ?_
    have hj : Wins.join l = ws := by
      rcases hst with ⟨h0, rfl⟩ | ⟨done, p, rfl, hj⟩
      · have : l = [] := List.eq_nil_of_length_eq_zero (by omega)
        rw [this]; rfl
      · rw [hj, hkn, List.drop_length]; rfl
    rw [hj]
    exact hO
  have hk2 : k < l.length := by omega
  obtain ⟨u, hu⟩ : ∃ u, l[k]? = some u := ⟨_, List.getElem?_eq_getElem hk2⟩
  have hdr : l.drop k = u :: l.drop (k + 1) := by
    rw [List.drop_eq_getElem_cons hk2]
    congr 1
    rw [List.getElem?_eq_getElem hk2] at hu
    exact Option.some.inj hu
  obtain ⟨i, o, c, x, cs, ro, rfl, hi, hg, hcs⟩ := s.at hk2
  have hcu := hcs k u hu
  have hg' := (X.old i hi).trans hg
  have hi' := Nat.lt_of_lt_of_le hi X.next
  have hO' := hO.lenOf
  rw [List.length_map] at hO'
  rw [decide_eq_true k1]
  refine W.cond (x := true) rfl (fun _ => ?_) (fun hc => by cases hc)
  refine W.anyTm (fun tm => tm.look 0 = .slice (some (i, o)) l.length c x ∧ tm.look 3 = vo ∧ tm.look 4 = .int .i64 (k : Int)) ⟨rfl, rfl, rfl⟩ ?_
  rintro tm ⟨w0, w3, w4⟩
  obtain ⟨T, rfl⟩ : ∃ T : Tm, tm = (((T.set 0 (some (.slice (some (i, o)) l.length c x))).set 3 (some (vo))).set 4 (some (.int .i64 (k : Int)))) := ⟨tm, (show tm = (((tm.set 0 (some (tm.look 0))).set 3 (some (tm.look 3))).set 4 (some (tm.look 4))) by rfl).trans (by rw [w0, w3, w4])⟩
  clear w0 w3 w4
  repeat (first | (with_reducible first | refine W.seq ?_ | refine W.block ?_ | refine W.region ?_ | refine W.draws ?_ | refine W.skip ?_ | refine W.exit ?_ | refine W.ret ?_ | refine SeqQ.normal ?_ | refine SeqQ.exit ?_ | refine SeqQ.ret ?_ | refine BlockQ.exit ?_ | refine BlockQ.normal ?_ | refine BlockQ.ret ?_ | refine BlockQ.other rfl ?_ | refine LoopQ.exit ?_ | refine CallQ.val ?_ | refine CutQ.normal ?_ | refine LoopQ.ret ?_) | refine W.offn rfl rfl ?_ | refine W.opn rfl op_lss rfl ?_ | refine W.opn rfl op_leq rfl ?_ | refine W.opn rfl op_eql rfl ?_ | refine W.opn rfl op_neq rfl ?_ | refine W.opn rfl (op_sub (by omega) (by omega)) rfl ?_ | refine W.opn rfl (op_add (by omega) (by omega)) rfl ?_ | refine W.opn (v := .int _ _) rfl rfl rfl ?_ | refine W.opn (v := .ptr _) rfl rfl rfl ?_ | refine W.opn (v := .bool _) rfl rfl rfl ?_ | refine W.opn (v := .slice _ _ _ _) rfl rfl rfl ?_ | refine W.opn (v := .agg _) rfl rfl rfl ?_ | refine W.opn (v := .tup _) rfl rfl rfl ?_ | refine W.opn rfl rfl rfl ?_ | refine W.offn rfl rfl ?_ | refine W.nil ?_)
  refine W.ln hO' rfl rfl rfl rfl rfl rfl rfl rfl ?_
  have hw : (Int.ofNat ws.length) = (ws.length : Int) := rfl
  repeat (first | refine W.offn rfl rfl ?_ | refine W.opn rfl op_lss rfl ?_ | refine W.opn rfl op_leq rfl ?_ | refine W.opn rfl op_eql rfl ?_ | refine W.opn rfl op_neq rfl ?_ | refine W.opn rfl (op_sub (by omega) (by omega)) rfl ?_ | refine W.opn rfl (op_add (by omega) (by omega)) rfl ?_ | refine W.opn (v := .int _ _) rfl rfl rfl ?_ | refine W.opn (v := .ptr _) rfl rfl rfl ?_ | refine W.opn (v := .bool _) rfl rfl rfl ?_ | refine W.opn (v := .slice _ _ _ _) rfl rfl rfl ?_ | refine W.opn (v := .agg _) rfl rfl rfl ?_ | refine W.opn (v := .tup _) rfl rfl rfl ?_ | refine W.opn rfl rfl rfl ?_ | refine W.offn rfl rfl ?_)
  refine W.nil ?_
  refine SeqQ.normal ?_
  refine W.cutAt (fun tm h2 => (tm.look 0 = .slice (some (i, o)) l.length c x ∧ tm.look 3 = vo ∧ tm.look 4 = .int .i64 (k : Int) ∧ tm.look 5 = .int .i64 (ws.length : Int)) ∧ Ext h' h2 ∧ ∃ bb, tm.look 29 = .bool bb ∧ (bb = true → ∃ done p, ws = done ++ [p] ∧ Wins.join l = done ++ Wins.joinP p (l.drop k) ∧ u.1 ≤ p.2) ∧ (bb = false → ∃ done, Wins.join l = ws ++ Wins.joinP u (l.drop (k + 1)) ∧ ws = done)) ?_ ?_
  · have ds := DS.start (Ext.refl h')
    repeat (first | (with_reducible first | refine W.seq ?_ | refine W.block ?_ | refine W.region ?_ | refine W.draws ?_ | refine W.skip ?_ | refine W.exit ?_ | refine W.ret ?_ | refine SeqQ.normal ?_ | refine SeqQ.exit ?_ | refine SeqQ.ret ?_ | refine BlockQ.exit ?_ | refine BlockQ.normal ?_ | refine BlockQ.ret ?_ | refine BlockQ.other rfl ?_ | refine LoopQ.exit ?_ | refine CallQ.val ?_ | refine CutQ.normal ?_ | refine LoopQ.ret ?_) | refine W.offn rfl rfl ?_ | refine W.opn rfl op_lss rfl ?_ | refine W.opn rfl op_leq rfl ?_ | refine W.opn rfl op_eql rfl ?_ | refine W.opn rfl op_neq rfl ?_ | refine W.opn rfl (op_sub (by omega) (by omega)) rfl ?_ | refine W.opn rfl (op_add (by omega) (by omega)) rfl ?_ | refine W.opn (v := .int _ _) rfl rfl rfl ?_ | refine W.opn (v := .ptr _) rfl rfl rfl ?_ | refine W.opn (v := .bool _) rfl rfl rfl ?_ | refine W.opn (v := .slice _ _ _ _) rfl rfl rfl ?_ | refine W.opn (v := .agg _) rfl rfl rfl ?_ | refine W.opn (v := .tup _) rfl rfl rfl ?_ | refine W.opn rfl rfl rfl ?_ | refine W.offn rfl rfl ?_ | refine W.nil ?_)
    repeat (first | refine W.doffn rfl rfl ?_ | refine W.dopn rfl rfl op_lss rfl ?_ | refine W.dopn rfl rfl op_leq rfl ?_ | refine W.dopn rfl rfl op_eql rfl ?_ | refine W.dopn rfl rfl op_neq rfl ?_ | refine W.dopn rfl rfl (op_sub (by omega) (by omega)) rfl ?_ | refine W.dopn rfl rfl (op_add (by omega) (by omega)) rfl ?_ | refine W.dopn (v := .int _ _) rfl rfl rfl rfl ?_ | refine W.dopn (v := .ptr _) rfl rfl rfl rfl ?_ | refine W.dopn (v := .bool _) rfl rfl rfl rfl ?_ | refine W.dopn (v := .slice _ _ _ _) rfl rfl rfl rfl ?_ | refine W.dopn (v := .agg _) rfl rfl rfl rfl ?_ | refine W.dopn (v := .tup _) rfl rfl rfl rfl ?_ | refine W.dopn rfl rfl rfl rfl ?_ | refine W.doffn rfl rfl ?_ | refine W.dnil ?_)
    by_cases e0 : ws.length = 0
    · rw [decide_eq_false (by omega : ¬ 0 < Int.ofNat ws.length)]
      repeat (first | refine W.doffn rfl rfl ?_ | refine W.dopn rfl rfl op_lss rfl ?_ | refine W.dopn rfl rfl op_leq rfl ?_ | refine W.dopn rfl rfl op_eql rfl ?_ | refine W.dopn rfl rfl op_neq rfl ?_ | refine W.dopn rfl rfl (op_sub (by omega) (by omega)) rfl ?_ | refine W.dopn rfl rfl (op_add (by omega) (by omega)) rfl ?_ | refine W.dopn (v := .int _ _) rfl rfl rfl rfl ?_ | refine W.dopn (v := .ptr _) rfl rfl rfl rfl ?_ | refine W.dopn (v := .bool _) rfl rfl rfl rfl ?_ | refine W.dopn (v := .slice _ _ _ _) rfl rfl rfl rfl ?_ | refine W.dopn (v := .agg _) rfl rfl rfl rfl ?_ | refine W.dopn (v := .tup _) rfl rfl rfl rfl ?_ | refine W.dopn rfl rfl rfl rfl ?_ | refine W.doffn rfl rfl ?_ | refine W.dnil ?_)
      repeat (first | (with_reducible first | refine W.seq ?_ | refine W.block ?_ | refine W.region ?_ | refine W.draws ?_ | refine W.skip ?_ | refine W.exit ?_ | refine W.ret ?_ | refine SeqQ.normal ?_ | refine SeqQ.exit ?_ | refine SeqQ.ret ?_ | refine BlockQ.exit ?_ | refine BlockQ.normal ?_ | refine BlockQ.ret ?_ | refine BlockQ.other rfl ?_ | refine LoopQ.exit ?_ | refine CallQ.val ?_ | refine CutQ.normal ?_ | refine LoopQ.ret ?_) | refine W.offn rfl rfl ?_ | refine W.opn rfl op_lss rfl ?_ | refine W.opn rfl op_leq rfl ?_ | refine W.opn rfl op_eql rfl ?_ | refine W.opn rfl op_neq rfl ?_ | refine W.opn rfl (op_sub (by omega) (by omega)) rfl ?_ | refine W.opn rfl (op_add (by omega) (by omega)) rfl ?_ | refine W.opn (v := .int _ _) rfl rfl rfl ?_ | refine W.opn (v := .ptr _) rfl rfl rfl ?_ | refine W.opn (v := .bool _) rfl rfl rfl ?_ | refine W.opn (v := .slice _ _ _ _) rfl rfl rfl ?_ | refine W.opn (v := .agg _) rfl rfl rfl ?_ | refine W.opn (v := .tup _) rfl rfl rfl ?_ | refine W.opn rfl rfl rfl ?_ | refine W.offn rfl rfl ?_ | refine W.nil ?_)
      refine ⟨⟨rfl, rfl, rfl, rfl⟩, Ext.refl _, false, rfl, (fun h => by cases h), fun _ => ?_⟩
      have hws : ws = [] := List.eq_nil_of_length_eq_zero e0
      refine ⟨ws, ?_, rfl⟩
      rcases hst with ⟨rfl, rfl⟩ | ⟨done, p, rfl, hj⟩
      · rw [List.drop_zero] at hdr
        rw [hdr]; rfl
      · simp at e0
    · rw [decide_eq_true (by omega : 0 < Int.ofNat ws.length)]
      rcases hst with ⟨_, rfl⟩ | ⟨done, p, rfl, hj⟩
      · exact absurd rfl e0
      have hp : ((done ++ [p]).map winC)[done.length]? = some (winC p) := by rw [List.getElem?_map, List.getElem?_append_right (Nat.le_refl _), Nat.sub_self]; rfl
      have hl1 : (done ++ [p]).length = done.length + 1 := by rw [List.length_append]; rfl
      obtain ⟨io, evo, l1, l2, l3, l4, l5⟩ := hO.at (j := done.length) (by rw [List.length_map, hl1]; omega)
      rw [List.length_map] at evo
      cases evo
      repeat (first | refine W.doffn rfl rfl ?_ | refine W.dopn rfl rfl op_lss rfl ?_ | refine W.dopn rfl rfl op_leq rfl ?_ | refine W.dopn rfl rfl op_eql rfl ?_ | refine W.dopn rfl rfl op_neq rfl ?_ | refine W.dopn rfl rfl (op_sub (by omega) (by omega)) rfl ?_ | refine W.dopn rfl rfl (op_add (by omega) (by omega)) rfl ?_ | refine W.dopn (v := .int _ _) rfl rfl rfl rfl ?_ | refine W.dopn (v := .ptr _) rfl rfl rfl rfl ?_ | refine W.dopn (v := .bool _) rfl rfl rfl rfl ?_ | refine W.dopn (v := .slice _ _ _ _) rfl rfl rfl rfl ?_ | refine W.dopn (v := .agg _) rfl rfl rfl rfl ?_ | refine W.dopn (v := .tup _) rfl rfl rfl rfl ?_ | refine W.dopn rfl rfl rfl rfl ?_ | refine W.doffn rfl rfl ?_ | refine W.dnil ?_)
      refine W.dix rfl rfl rfl rfl rfl rfl rfl (place_of (j := k) rfl hk2) ?_
      repeat (first | refine W.doffn rfl rfl ?_ | refine W.dopn rfl rfl op_lss rfl ?_ | refine W.dopn rfl rfl op_leq rfl ?_ | refine W.dopn rfl rfl op_eql rfl ?_ | refine W.dopn rfl rfl op_neq rfl ?_ | refine W.dopn rfl rfl (op_sub (by omega) (by omega)) rfl ?_ | refine W.dopn rfl rfl (op_add (by omega) (by omega)) rfl ?_ | refine W.dopn (v := .int _ _) rfl rfl rfl rfl ?_ | refine W.dopn (v := .ptr _) rfl rfl rfl rfl ?_ | refine W.dopn (v := .bool _) rfl rfl rfl rfl ?_ | refine W.dopn (v := .slice _ _ _ _) rfl rfl rfl rfl ?_ | refine W.dopn (v := .agg _) rfl rfl rfl rfl ?_ | refine W.dopn (v := .tup _) rfl rfl rfl rfl ?_ | refine W.dopn rfl rfl rfl rfl ?_ | refine W.doffn rfl rfl ?_ | refine W.dnil ?_)
      refine W.dldX ds rfl rfl rfl hg' hi' rfl (v := .int .i64 u.1) (cut_nth hcu rfl) fun r1 h1 ds => ?_
      repeat (first | refine W.doffn rfl rfl ?_ | refine W.dopn rfl rfl op_lss rfl ?_ | refine W.dopn rfl rfl op_leq rfl ?_ | refine W.dopn rfl rfl op_eql rfl ?_ | refine W.dopn rfl rfl op_neq rfl ?_ | refine W.dopn rfl rfl (op_sub (by omega) (by omega)) rfl ?_ | refine W.dopn rfl rfl (op_add (by omega) (by omega)) rfl ?_ | refine W.dopn (v := .int _ _) rfl rfl rfl rfl ?_ | refine W.dopn (v := .ptr _) rfl rfl rfl rfl ?_ | refine W.dopn (v := .bool _) rfl rfl rfl rfl ?_ | refine W.dopn (v := .slice _ _ _ _) rfl rfl rfl rfl ?_ | refine W.dopn (v := .agg _) rfl rfl rfl rfl ?_ | refine W.dopn (v := .tup _) rfl rfl rfl rfl ?_ | refine W.dopn rfl rfl rfl rfl ?_ | refine W.doffn rfl rfl ?_ | refine W.dnil ?_)
      refine W.dix rfl rfl rfl rfl rfl rfl rfl (place_of (j := done.length) (by omega) (by omega)) ?_
      repeat (first | refine W.doffn rfl rfl ?_ | refine W.dopn rfl rfl op_lss rfl ?_ | refine W.dopn rfl rfl op_leq rfl ?_ | refine W.dopn rfl rfl op_eql rfl ?_ | refine W.dopn rfl rfl op_neq rfl ?_ | refine W.dopn rfl rfl (op_sub (by omega) (by omega)) rfl ?_ | refine W.dopn rfl rfl (op_add (by omega) (by omega)) rfl ?_ | refine W.dopn (v := .int _ _) rfl rfl rfl rfl ?_ | refine W.dopn (v := .ptr _) rfl rfl rfl rfl ?_ | refine W.dopn (v := .bool _) rfl rfl rfl rfl ?_ | refine W.dopn (v := .slice _ _ _ _) rfl rfl rfl rfl ?_ | refine W.dopn (v := .agg _) rfl rfl rfl rfl ?_ | refine W.dopn (v := .tup _) rfl rfl rfl rfl ?_ | refine W.dopn rfl rfl rfl rfl ?_ | refine W.doffn rfl rfl ?_ | refine W.dnil ?_)
      refine W.dldX ds rfl rfl rfl l4 l2 rfl (v := .int .i64 p.2) (flat_get l5 hp rfl) fun r2 h2 ds => ?_
      repeat (first | refine W.doffn rfl rfl ?_ | refine W.dopn rfl rfl op_lss rfl ?_ | refine W.dopn rfl rfl op_leq rfl ?_ | refine W.dopn rfl rfl op_eql rfl ?_ | refine W.dopn rfl rfl op_neq rfl ?_ | refine W.dopn rfl rfl (op_sub (by omega) (by omega)) rfl ?_ | refine W.dopn rfl rfl (op_add (by omega) (by omega)) rfl ?_ | refine W.dopn (v := .int _ _) rfl rfl rfl rfl ?_ | refine W.dopn (v := .ptr _) rfl rfl rfl rfl ?_ | refine W.dopn (v := .bool _) rfl rfl rfl rfl ?_ | refine W.dopn (v := .slice _ _ _ _) rfl rfl rfl rfl ?_ | refine W.dopn (v := .agg _) rfl rfl rfl rfl ?_ | refine W.dopn (v := .tup _) rfl rfl rfl rfl ?_ | refine W.dopn rfl rfl rfl rfl ?_ | refine W.doffn rfl rfl ?_ | refine W.dnil ?_)
      repeat (first | (with_reducible first | refine W.seq ?_ | refine W.block ?_ | refine W.region ?_ | refine W.draws ?_ | refine W.skip ?_ | refine W.exit ?_ | refine W.ret ?_ | refine SeqQ.normal ?_ | refine SeqQ.exit ?_ | refine SeqQ.ret ?_ | refine BlockQ.exit ?_ | refine BlockQ.normal ?_ | refine BlockQ.ret ?_ | refine BlockQ.other rfl ?_ | refine LoopQ.exit ?_ | refine CallQ.val ?_ | refine CutQ.normal ?_ | refine LoopQ.ret ?_) | refine W.offn rfl rfl ?_ | refine W.opn rfl op_lss rfl ?_ | refine W.opn rfl op_leq rfl ?_ | refine W.opn rfl op_eql rfl ?_ | refine W.opn rfl op_neq rfl ?_ | refine W.opn rfl (op_sub (by omega) (by omega)) rfl ?_ | refine W.opn rfl (op_add (by omega) (by omega)) rfl ?_ | refine W.opn (v := .int _ _) rfl rfl rfl ?_ | refine W.opn (v := .ptr _) rfl rfl rfl ?_ | refine W.opn (v := .bool _) rfl rfl rfl ?_ | refine W.opn (v := .slice _ _ _ _) rfl rfl rfl ?_ | refine W.opn (v := .agg _) rfl rfl rfl ?_ | refine W.opn (v := .tup _) rfl rfl rfl ?_ | refine W.opn rfl rfl rfl ?_ | refine W.offn rfl rfl ?_ | refine W.nil ?_)
      refine ⟨⟨rfl, rfl, rfl, rfl⟩, ds.x, decide (u.1 ≤ p.2), rfl, fun h => ⟨done, p, rfl, hj, of_decide_eq_true h⟩, fun h => ⟨_, ?_, rfl⟩⟩
      rw [hj, hdr, List.append_assoc]
      show done ++ Wins.joinP p (u :: l.drop (k + 1)) = done ++ (p :: Wins.joinP u (l.drop (k + 1)))
      rw [show Wins.joinP p (u :: l.drop (k + 1)) = if u.1 ≤ p.2 then Wins.joinP (p.1, if u.2 ≤ p.2 then p.2 else u.2) (l.drop (k + 1)) else p :: Wins.joinP u (l.drop (k + 1)) from rfl, if_neg (of_decide_eq_false h)]
  rintro tm h2 ⟨⟨w0, w3, w4, w5⟩, X2, bb, w29, hb1, hb2⟩
  obtain ⟨T, rfl⟩ : ∃ T : Tm, tm = (((((T.set 0 (some (.slice (some (i, o)) l.length c x))).set 3 (some (vo))).set 4 (some (.int .i64 (k : Int)))).set 5 (some (.int .i64 (ws.length : Int)))).set 29 (some (.bool bb))) := ⟨tm, (show tm = (((((tm.set 0 (some (tm.look 0))).set 3 (some (tm.look 3))).set 4 (some (tm.look 4))).set 5 (some (tm.look 5))).set 29 (some (tm.look 29))) by rfl).trans (by rw [w0, w3, w4, w5, w29])⟩
  clear w0 w3 w4 w5 w29
  have O2 := hO.ext X2
  have Y2 := X.trans X2
  have g2 := (X2.old i hi').trans hg'
  have i2 := Nat.lt_of_lt_of_le hi' X2.next
  clear hst hg' hO
  cases bb
  · obtain ⟨_, hj, _⟩ := hb2 rfl
    refine W.cond (x := false) rfl (fun hc => by cases hc) (fun _ => ?_)
    repeat (first | (with_reducible first | refine W.seq ?_ | refine W.block ?_ | refine W.region ?_ | refine W.draws ?_ | refine W.skip ?_ | refine W.exit ?_ | refine W.ret ?_ | refine SeqQ.normal ?_ | refine SeqQ.exit ?_ | refine SeqQ.ret ?_ | refine BlockQ.exit ?_ | refine BlockQ.normal ?_ | refine BlockQ.ret ?_ | refine BlockQ.other rfl ?_ | refine LoopQ.exit ?_ | refine CallQ.val ?_ | refine CutQ.normal ?_ | refine LoopQ.ret ?_) | refine W.offn rfl rfl ?_ | refine W.opn rfl op_lss rfl ?_ | refine W.opn rfl op_leq rfl ?_ | refine W.opn rfl op_eql rfl ?_ | refine W.opn rfl op_neq rfl ?_ | refine W.opn rfl (op_sub (by omega) (by omega)) rfl ?_ | refine W.opn rfl (op_add (by omega) (by omega)) rfl ?_ | refine W.opn (v := .int _ _) rfl rfl rfl ?_ | refine W.opn (v := .ptr _) rfl rfl rfl ?_ | refine W.opn (v := .bool _) rfl rfl rfl ?_ | refine W.opn (v := .slice _ _ _ _) rfl rfl rfl ?_ | refine W.opn (v := .agg _) rfl rfl rfl ?_ | refine W.opn (v := .tup _) rfl rfl rfl ?_ | refine W.opn rfl rfl rfl ?_ | refine W.offn rfl rfl ?_ | refine W.nil ?_)
    refine W.ix rfl rfl rfl rfl rfl rfl rfl (place_of (j := k) rfl hk2) ?_
    refine W.ld rfl rfl rfl g2 rfl (v := .agg (winC u)) (by show (cut cs (o + k * 2) 2).map CV.agg = _; rw [hcu]; rfl) ?_
    obtain ⟨pv, nv, cv, ev, ee⟩ := O2.form
    cases ee
    repeat (first | refine W.offn rfl rfl ?_ | refine W.opn rfl op_lss rfl ?_ | refine W.opn rfl op_leq rfl ?_ | refine W.opn rfl op_eql rfl ?_ | refine W.opn rfl op_neq rfl ?_ | refine W.opn rfl (op_sub (by omega) (by omega)) rfl ?_ | refine W.opn rfl (op_add (by omega) (by omega)) rfl ?_ | refine W.opn (v := .int _ _) rfl rfl rfl ?_ | refine W.opn (v := .ptr _) rfl rfl rfl ?_ | refine W.opn (v := .bool _) rfl rfl rfl ?_ | refine W.opn (v := .slice _ _ _ _) rfl rfl rfl ?_ | refine W.opn (v := .agg _) rfl rfl rfl ?_ | refine W.opn (v := .tup _) rfl rfl rfl ?_ | refine W.opn rfl rfl rfl ?_ | refine W.offn rfl rfl ?_)
    have X3 : Ext h2 (h2.new (.cells (winC u) false)) := Ext.new _ _
    refine W.apT (O2.ext X3) (by decide) (by show h.next ≤ h2.next + 1; have := Y2.next; omega) (new_same _ _) rfl rfl rfl rfl rfl rfl rfl rfl rfl rfl rfl rfl rfl (by rw [List.length_map]; show (ws.length + 1) * 16 ≤ _; omega) fun v4 h4 hn4 O4 o4 => ?_
    rw [K5_upd] at o4
    have o5 : OwnT h4 K5 h.next 2 (5, 0) v4 ((ws ++ [u]).map winC) := by rw [List.map_append]; exact o4
    have Y4 := O4.ext (Y2.trans X3) (Nat.le_refl _)
    clear o4 O4 hn4 X3 O2
    repeat (first | refine W.offn rfl rfl ?_ | refine W.opn rfl op_lss rfl ?_ | refine W.opn rfl op_leq rfl ?_ | refine W.opn rfl op_eql rfl ?_ | refine W.opn rfl op_neq rfl ?_ | refine W.opn rfl (op_sub (by omega) (by omega)) rfl ?_ | refine W.opn rfl (op_add (by omega) (by omega)) rfl ?_ | refine W.opn (v := .int _ _) rfl rfl rfl ?_ | refine W.opn (v := .ptr _) rfl rfl rfl ?_ | refine W.opn (v := .bool _) rfl rfl rfl ?_ | refine W.opn (v := .slice _ _ _ _) rfl rfl rfl ?_ | refine W.opn (v := .agg _) rfl rfl rfl ?_ | refine W.opn (v := .tup _) rfl rfl rfl ?_ | refine W.opn rfl rfl rfl ?_ | refine W.offn rfl rfl ?_)
    refine W.nil ?_
    refine W.anyTm (fun tm => tm.look 0 = .slice (some (i, o)) l.length c x ∧ tm.look 3 = v4 ∧ tm.look 4 = .int .i64 (k : Int)) ⟨rfl, rfl, rfl⟩ ?_
    rintro tm ⟨w0, w3, w4⟩
    obtain ⟨T, rfl⟩ : ∃ T : Tm, tm = (((T.set 0 (some (.slice (some (i, o)) l.length c x))).set 3 (some (v4))).set 4 (some (.int .i64 (k : Int)))) := ⟨tm, (show tm = (((tm.set 0 (some (tm.look 0))).set 3 (some (tm.look 3))).set 4 (some (tm.look 4))) by rfl).trans (by rw [w0, w3, w4])⟩
    clear w0 w3 w4
    repeat (first | (with_reducible first | refine W.seq ?_ | refine W.block ?_ | refine W.region ?_ | refine W.draws ?_ | refine W.skip ?_ | refine W.exit ?_ | refine W.ret ?_ | refine SeqQ.normal ?_ | refine SeqQ.exit ?_ | refine SeqQ.ret ?_ | refine BlockQ.exit ?_ | refine BlockQ.normal ?_ | refine BlockQ.ret ?_ | refine BlockQ.other rfl ?_ | refine LoopQ.exit ?_ | refine CallQ.val ?_ | refine CutQ.normal ?_ | refine LoopQ.ret ?_) | refine W.offn rfl rfl ?_ | refine W.opn rfl op_lss rfl ?_ | refine W.opn rfl op_leq rfl ?_ | refine W.opn rfl op_eql rfl ?_ | refine W.opn rfl op_neq rfl ?_ | refine W.opn rfl (op_sub (by omega) (by omega)) rfl ?_ | refine W.opn rfl (op_add (by omega) (by omega)) rfl ?_ | refine W.opn (v := .int _ _) rfl rfl rfl ?_ | refine W.opn (v := .ptr _) rfl rfl rfl ?_ | refine W.opn (v := .bool _) rfl rfl rfl ?_ | refine W.opn (v := .slice _ _ _ _) rfl rfl rfl ?_ | refine W.opn (v := .agg _) rfl rfl rfl ?_ | refine W.opn (v := .tup _) rfl rfl rfl ?_ | refine W.opn rfl rfl rfl ?_ | refine W.offn rfl rfl ?_ | refine W.nil ?_)
    exact ⟨k + 1, by show l.length - (k + 1) < l.length - k; omega, rfl, rfl, ⟨_, ws ++ [u], rfl, o5, by rw [List.length_append]; show ws.length + 1 ≤ k + 1; omega, .inr ⟨ws, u, rfl, hj⟩⟩, by omega, Y4⟩
  · obtain ⟨done, p, rfl, hj, hup⟩ := hb1 rfl
    have hp : ((done ++ [p]).map winC)[done.length]? = some (winC p) := by rw [List.getElem?_map, List.getElem?_append_right (Nat.le_refl _), Nat.sub_self]; rfl
    have hl1 : (done ++ [p]).length = done.length + 1 := by rw [List.length_append]; rfl
    obtain ⟨io, evo, l1, l2, l3, l4, l5⟩ := O2.at (j := done.length) (by rw [List.length_map, hl1]; omega)
    rw [List.length_map] at evo
    cases evo
    refine W.cond (x := true) rfl (fun _ => ?_) (fun hc => by cases hc)
    have ds := DS.start (Ext.refl h2)
    repeat (first | (with_reducible first | refine W.seq ?_ | refine W.block ?_ | refine W.region ?_ | refine W.draws ?_ | refine W.skip ?_ | refine W.exit ?_ | refine W.ret ?_ | refine SeqQ.normal ?_ | refine SeqQ.exit ?_ | refine SeqQ.ret ?_ | refine BlockQ.exit ?_ | refine BlockQ.normal ?_ | refine BlockQ.ret ?_ | refine BlockQ.other rfl ?_ | refine LoopQ.exit ?_ | refine CallQ.val ?_ | refine CutQ.normal ?_ | refine LoopQ.ret ?_) | refine W.offn rfl rfl ?_ | refine W.opn rfl op_lss rfl ?_ | refine W.opn rfl op_leq rfl ?_ | refine W.opn rfl op_eql rfl ?_ | refine W.opn rfl op_neq rfl ?_ | refine W.opn rfl (op_sub (by omega) (by omega)) rfl ?_ | refine W.opn rfl (op_add (by omega) (by omega)) rfl ?_ | refine W.opn (v := .int _ _) rfl rfl rfl ?_ | refine W.opn (v := .ptr _) rfl rfl rfl ?_ | refine W.opn (v := .bool _) rfl rfl rfl ?_ | refine W.opn (v := .slice _ _ _ _) rfl rfl rfl ?_ | refine W.opn (v := .agg _) rfl rfl rfl ?_ | refine W.opn (v := .tup _) rfl rfl rfl ?_ | refine W.opn rfl rfl rfl ?_ | refine W.offn rfl rfl ?_ | refine W.nil ?_)
    repeat (first | refine W.doffn rfl rfl ?_ | refine W.dopn rfl rfl op_lss rfl ?_ | refine W.dopn rfl rfl op_leq rfl ?_ | refine W.dopn rfl rfl op_eql rfl ?_ | refine W.dopn rfl rfl op_neq rfl ?_ | refine W.dopn rfl rfl (op_sub (by omega) (by omega)) rfl ?_ | refine W.dopn rfl rfl (op_add (by omega) (by omega)) rfl ?_ | refine W.dopn (v := .int _ _) rfl rfl rfl rfl ?_ | refine W.dopn (v := .ptr _) rfl rfl rfl rfl ?_ | refine W.dopn (v := .bool _) rfl rfl rfl rfl ?_ | refine W.dopn (v := .slice _ _ _ _) rfl rfl rfl rfl ?_ | refine W.dopn (v := .agg _) rfl rfl rfl rfl ?_ | refine W.dopn (v := .tup _) rfl rfl rfl rfl ?_ | refine W.dopn rfl rfl rfl rfl ?_ | refine W.doffn rfl rfl ?_ | refine W.dnil ?_)
    refine W.dix rfl rfl rfl rfl rfl rfl rfl (place_of (j := done.length) (by omega) (by omega)) ?_
    repeat (first | refine W.doffn rfl rfl ?_ | refine W.dopn rfl rfl op_lss rfl ?_ | refine W.dopn rfl rfl op_leq rfl ?_ | refine W.dopn rfl rfl op_eql rfl ?_ | refine W.dopn rfl rfl op_neq rfl ?_ | refine W.dopn rfl rfl (op_sub (by omega) (by omega)) rfl ?_ | refine W.dopn rfl rfl (op_add (by omega) (by omega)) rfl ?_ | refine W.dopn (v := .int _ _) rfl rfl rfl rfl ?_ | refine W.dopn (v := .ptr _) rfl rfl rfl rfl ?_ | refine W.dopn (v := .bool _) rfl rfl rfl rfl ?_ | refine W.dopn (v := .slice _ _ _ _) rfl rfl rfl rfl ?_ | refine W.dopn (v := .agg _) rfl rfl rfl rfl ?_ | refine W.dopn (v := .tup _) rfl rfl rfl rfl ?_ | refine W.dopn rfl rfl rfl rfl ?_ | refine W.doffn rfl rfl ?_ | refine W.dnil ?_)
    refine W.dldX ds rfl rfl rfl l4 l2 rfl (v := .int .i64 p.2) (flat_get l5 hp rfl) fun r2 h3 ds => ?_
    repeat (first | refine W.doffn rfl rfl ?_ | refine W.dopn rfl rfl op_lss rfl ?_ | refine W.dopn rfl rfl op_leq rfl ?_ | refine W.dopn rfl rfl op_eql rfl ?_ | refine W.dopn rfl rfl op_neq rfl ?_ | refine W.dopn rfl rfl (op_sub (by omega) (by omega)) rfl ?_ | refine W.dopn rfl rfl (op_add (by omega) (by omega)) rfl ?_ | refine W.dopn (v := .int _ _) rfl rfl rfl rfl ?_ | refine W.dopn (v := .ptr _) rfl rfl rfl rfl ?_ | refine W.dopn (v := .bool _) rfl rfl rfl rfl ?_ | refine W.dopn (v := .slice _ _ _ _) rfl rfl rfl rfl ?_ | refine W.dopn (v := .agg _) rfl rfl rfl rfl ?_ | refine W.dopn (v := .tup _) rfl rfl rfl rfl ?_ | refine W.dopn rfl rfl rfl rfl ?_ | refine W.doffn rfl rfl ?_ | refine W.dnil ?_)
    refine W.dix rfl rfl rfl rfl rfl rfl rfl (place_of (j := k) rfl hk2) ?_
    repeat (first | refine W.doffn rfl rfl ?_ | refine W.dopn rfl rfl op_lss rfl ?_ | refine W.dopn rfl rfl op_leq rfl ?_ | refine W.dopn rfl rfl op_eql rfl ?_ | refine W.dopn rfl rfl op_neq rfl ?_ | refine W.dopn rfl rfl (op_sub (by omega) (by omega)) rfl ?_ | refine W.dopn rfl rfl (op_add (by omega) (by omega)) rfl ?_ | refine W.dopn (v := .int _ _) rfl rfl rfl rfl ?_ | refine W.dopn (v := .ptr _) rfl rfl rfl rfl ?_ | refine W.dopn (v := .bool _) rfl rfl rfl rfl ?_ | refine W.dopn (v := .slice _ _ _ _) rfl rfl rfl rfl ?_ | refine W.dopn (v := .agg _) rfl rfl rfl rfl ?_ | refine W.dopn (v := .tup _) rfl rfl rfl rfl ?_ | refine W.dopn rfl rfl rfl rfl ?_ | refine W.doffn rfl rfl ?_ | refine W.dnil ?_)
    refine W.dldX ds rfl rfl rfl g2 i2 rfl (v := .int .i64 u.2) (cut_nth hcu rfl) fun r1 h4 ds => ?_
    refine W.dopn (v := .int .i64 (mx p.2 u.2)) rfl rfl rfl rfl ?_
    repeat (first | refine W.doffn rfl rfl ?_ | refine W.dopn rfl rfl op_lss rfl ?_ | refine W.dopn rfl rfl op_leq rfl ?_ | refine W.dopn rfl rfl op_eql rfl ?_ | refine W.dopn rfl rfl op_neq rfl ?_ | refine W.dopn rfl rfl (op_sub (by omega) (by omega)) rfl ?_ | refine W.dopn rfl rfl (op_add (by omega) (by omega)) rfl ?_ | refine W.dopn (v := .int _ _) rfl rfl rfl rfl ?_ | refine W.dopn (v := .ptr _) rfl rfl rfl rfl ?_ | refine W.dopn (v := .bool _) rfl rfl rfl rfl ?_ | refine W.dopn (v := .slice _ _ _ _) rfl rfl rfl rfl ?_ | refine W.dopn (v := .agg _) rfl rfl rfl rfl ?_ | refine W.dopn (v := .tup _) rfl rfl rfl rfl ?_ | refine W.dopn rfl rfl rfl rfl ?_ | refine W.doffn rfl rfl ?_ | refine W.dnil ?_)
    refine W.dix rfl rfl rfl rfl rfl rfl rfl (place_of (j := done.length) (by omega) (by omega)) ?_
    repeat (first | refine W.doffn rfl rfl ?_ | refine W.dopn rfl rfl op_lss rfl ?_ | refine W.dopn rfl rfl op_leq rfl ?_ | refine W.dopn rfl rfl op_eql rfl ?_ | refine W.dopn rfl rfl op_neq rfl ?_ | refine W.dopn rfl rfl (op_sub (by omega) (by omega)) rfl ?_ | refine W.dopn rfl rfl (op_add (by omega) (by omega)) rfl ?_ | refine W.dopn (v := .int _ _) rfl rfl rfl rfl ?_ | refine W.dopn (v := .ptr _) rfl rfl rfl rfl ?_ | refine W.dopn (v := .bool _) rfl rfl rfl rfl ?_ | refine W.dopn (v := .slice _ _ _ _) rfl rfl rfl rfl ?_ | refine W.dopn (v := .agg _) rfl rfl rfl rfl ?_ | refine W.dopn (v := .tup _) rfl rfl rfl rfl ?_ | refine W.dopn rfl rfl rfl rfl ?_ | refine W.doffn rfl rfl ?_ | refine W.dnil ?_)
    refine W.dst (vs := [.int .i64 (mx p.2 u.2)]) (cs' := (((done ++ [p]).map winC).set done.length ((winC p).set 1 (.int .i64 (mx p.2 u.2)))).flatten) (fun r hr => (ds.r r hr).2) rfl rfl rfl rfl rfl rfl rfl ((ds.x.old io l2).trans l4) (flat_setAt l5 (by decide) hp) fun r5 h5 hr5 s5 => ?_
    repeat (first | refine W.doffn rfl rfl ?_ | refine W.dopn rfl rfl op_lss rfl ?_ | refine W.dopn rfl rfl op_leq rfl ?_ | refine W.dopn rfl rfl op_eql rfl ?_ | refine W.dopn rfl rfl op_neq rfl ?_ | refine W.dopn rfl rfl (op_sub (by omega) (by omega)) rfl ?_ | refine W.dopn rfl rfl (op_add (by omega) (by omega)) rfl ?_ | refine W.dopn (v := .int _ _) rfl rfl rfl rfl ?_ | refine W.dopn (v := .ptr _) rfl rfl rfl rfl ?_ | refine W.dopn (v := .bool _) rfl rfl rfl rfl ?_ | refine W.dopn (v := .slice _ _ _ _) rfl rfl rfl rfl ?_ | refine W.dopn (v := .agg _) rfl rfl rfl rfl ?_ | refine W.dopn (v := .tup _) rfl rfl rfl rfl ?_ | refine W.dopn rfl rfl rfl rfl ?_ | refine W.doffn rfl rfl ?_ | refine W.dnil ?_)
    repeat (first | (with_reducible first | refine W.seq ?_ | refine W.block ?_ | refine W.region ?_ | refine W.draws ?_ | refine W.skip ?_ | refine W.exit ?_ | refine W.ret ?_ | refine SeqQ.normal ?_ | refine SeqQ.exit ?_ | refine SeqQ.ret ?_ | refine BlockQ.exit ?_ | refine BlockQ.normal ?_ | refine BlockQ.ret ?_ | refine BlockQ.other rfl ?_ | refine LoopQ.exit ?_ | refine CallQ.val ?_ | refine CutQ.normal ?_ | refine LoopQ.ret ?_) | refine W.offn rfl rfl ?_ | refine W.opn rfl op_lss rfl ?_ | refine W.opn rfl op_leq rfl ?_ | refine W.opn rfl op_eql rfl ?_ | refine W.opn rfl op_neq rfl ?_ | refine W.opn rfl (op_sub (by omega) (by omega)) rfl ?_ | refine W.opn rfl (op_add (by omega) (by omega)) rfl ?_ | refine W.opn (v := .int _ _) rfl rfl rfl ?_ | refine W.opn (v := .ptr _) rfl rfl rfl ?_ | refine W.opn (v := .bool _) rfl rfl rfl ?_ | refine W.opn (v := .slice _ _ _ _) rfl rfl rfl ?_ | refine W.opn (v := .agg _) rfl rfl rfl ?_ | refine W.opn (v := .tup _) rfl rfl rfl ?_ | refine W.opn rfl rfl rfl ?_ | refine W.offn rfl rfl ?_ | refine W.nil ?_)
    have x4 := ds.x
    have e5 : ((done ++ [p]).map winC).set done.length ((winC p).set 1 (.int .i64 (mx p.2 u.2))) = (done ++ [(p.1, if u.2 ≤ p.2 then p.2 else u.2)]).map winC := by
      rw [mx_eq, List.map_append, List.map_append, List.set_append_right _ _ (by rw [List.length_map]; omega), List.length_map, Nat.sub_self]
      rfl
    have g5 : h5.get io = some (.cells ((done ++ [(p.1, if u.2 ≤ p.2 then p.2 else u.2)]).map winC).flatten false) := by
      rw [s5.get, put_same, e5]
    have l1' : (done ++ [(p.1, if u.2 ≤ p.2 then p.2 else u.2)]).length = (done ++ [p]).length := by rw [List.length_append, List.length_append]; rfl
    have O5 : Only h2 h5 K5 h.next (5, 0) := (x4.only).trans (only_of rfl l1 s5.next (Nat.lt_of_lt_of_le l2 x4.next) fun k' hne => by rw [s5.get, Heap.get_put, if_neg (Ne.symm hne)])
    have o5 : OwnT h5 K5 h.next 2 (5, 0) (.slice (some (io, 0)) (done ++ [p]).length (done ++ [p]).length 2) ((done ++ [(p.1, if u.2 ≤ p.2 then p.2 else u.2)]).map winC) :=
      .inr ⟨io, by rw [List.length_map, l1'], l1, Nat.lt_of_lt_of_le l2 O5.next, rfl, g5, winC_len, by simp⟩
    exact ⟨k + 1, by show l.length - (k + 1) < l.length - k; omega, rfl, rfl, ⟨_, done ++ [(p.1, if u.2 ≤ p.2 then p.2 else u.2)], rfl, o5, by omega, .inr ⟨done, _, rfl, by
      rw [hj, hdr]
      rw [show Wins.joinP p (u :: l.drop (k + 1)) = if u.1 ≤ p.2 then Wins.joinP (p.1, if u.2 ≤ p.2 then p.2 else u.2) (l.drop (k + 1)) else p :: Wins.joinP u (l.drop (k + 1)) from rfl, if_pos hup]⟩⟩, by omega, O5.ext Y2 (Nat.le_refl _)⟩
end
end Go.Proofs.Ytdcegklfbhfddaa
