/- A place in a row; may a link be begun at a tick; the law's own function. No condition. -/
import Derived.Test.YtdcegklfbhfddaaXNj
namespace Go.Proofs.Ytdcegklfbhfddaa
set_option linter.unusedVariables false
set_option linter.unusedSimpArgs false
open Go Go.CM
noncomputable section
set_option maxHeartbeats 20000000

theorem pick_w {h : Heap} {tm : Tm} {Q : R → Prop} (n : Int) (m : Nat) (hm : 1 ≤ m) (hm2 : m ≤ 1099511627776) (q : ∀ k : Nat, k < m → Q (.val (.int .i64 (k : Int)) h)) : W E1 (.call (.fn 9 [] []) [.int .i64 n, .int .i64 (Int.ofNat m)]) tm h Q := by
  obtain ⟨j, rfl⟩ : ∃ j, m = j + 1 := ⟨m - 1, by omega⟩
  have hj : Int.ofNat (j + 1) = (j : Int) + 1 := rfl
  have h1 : n.tmod (Int.ofNat (j + 1)) < Int.ofNat (j + 1) := Int.tmod_lt_of_pos n (by omega)
  have h2 : -Int.ofNat (j + 1) < n.tmod (Int.ofNat (j + 1)) := Int.lt_tmod_of_pos n (by omega)
  refine W.fn (s := fnOf Try.f9) rfl rfl rfl rfl ?_
  repeat (first | (with_reducible first | refine W.seq ?_ | refine W.block ?_ | refine W.region ?_ | refine W.draws ?_ | refine W.skip ?_ | refine W.exit ?_ | refine W.ret ?_ | refine SeqQ.normal ?_ | refine SeqQ.exit ?_ | refine SeqQ.ret ?_ | refine BlockQ.exit ?_ | refine BlockQ.normal ?_ | refine BlockQ.ret ?_ | refine BlockQ.other rfl ?_ | refine LoopQ.exit ?_ | refine CallQ.val ?_ | refine CutQ.normal ?_ | refine LoopQ.ret ?_) | refine W.offn rfl rfl ?_ | refine W.opn rfl op_lss rfl ?_ | refine W.opn rfl op_leq rfl ?_ | refine W.opn rfl op_eql rfl ?_ | refine W.opn rfl op_neq rfl ?_ | refine W.opn rfl (op_sub (by omega) (by omega)) rfl ?_ | refine W.opn rfl (op_add (by omega) (by omega)) rfl ?_ | refine W.opn (v := .int _ _) rfl rfl rfl ?_ | refine W.opn (v := .ptr _) rfl rfl rfl ?_ | refine W.opn (v := .bool _) rfl rfl rfl ?_ | refine W.opn (v := .slice _ _ _ _) rfl rfl rfl ?_ | refine W.opn (v := .agg _) rfl rfl rfl ?_ | refine W.opn (v := .tup _) rfl rfl rfl ?_ | refine W.opn rfl rfl rfl ?_ | refine W.offn rfl rfl ?_ | refine W.nil ?_)
  rw [decide_eq_false (by omega : ¬ Int.ofNat (j + 1) < 1)]
  refine W.cond (x := false) rfl (fun hc => by cases hc) (fun _ => ?_)
  repeat (first | (with_reducible first | refine W.seq ?_ | refine W.block ?_ | refine W.region ?_ | refine W.draws ?_ | refine W.skip ?_ | refine W.exit ?_ | refine W.ret ?_ | refine SeqQ.normal ?_ | refine SeqQ.exit ?_ | refine SeqQ.ret ?_ | refine BlockQ.exit ?_ | refine BlockQ.normal ?_ | refine BlockQ.ret ?_ | refine BlockQ.other rfl ?_ | refine LoopQ.exit ?_ | refine CallQ.val ?_ | refine CutQ.normal ?_ | refine LoopQ.ret ?_) | refine W.offn rfl rfl ?_ | refine W.opn rfl op_lss rfl ?_ | refine W.opn rfl op_leq rfl ?_ | refine W.opn rfl op_eql rfl ?_ | refine W.opn rfl op_neq rfl ?_ | refine W.opn rfl (op_sub (by omega) (by omega)) rfl ?_ | refine W.opn rfl (op_add (by omega) (by omega)) rfl ?_ | refine W.opn (v := .int _ _) rfl rfl rfl ?_ | refine W.opn (v := .ptr _) rfl rfl rfl ?_ | refine W.opn (v := .bool _) rfl rfl rfl ?_ | refine W.opn (v := .slice _ _ _ _) rfl rfl rfl ?_ | refine W.opn (v := .agg _) rfl rfl rfl ?_ | refine W.opn (v := .tup _) rfl rfl rfl ?_ | refine W.opn rfl rfl rfl ?_ | refine W.offn rfl rfl ?_ | refine W.nil ?_)
  by_cases c : n.tmod (Int.ofNat (j + 1)) < 0
  · rw [decide_eq_true c]
    refine W.cond (x := true) rfl (fun _ => ?_) (fun hc => by cases hc)
    repeat (first | (with_reducible first | refine W.seq ?_ | refine W.block ?_ | refine W.region ?_ | refine W.draws ?_ | refine W.skip ?_ | refine W.exit ?_ | refine W.ret ?_ | refine SeqQ.normal ?_ | refine SeqQ.exit ?_ | refine SeqQ.ret ?_ | refine BlockQ.exit ?_ | refine BlockQ.normal ?_ | refine BlockQ.ret ?_ | refine BlockQ.other rfl ?_ | refine LoopQ.exit ?_ | refine CallQ.val ?_ | refine CutQ.normal ?_ | refine LoopQ.ret ?_) | refine W.offn rfl rfl ?_ | refine W.opn rfl op_lss rfl ?_ | refine W.opn rfl op_leq rfl ?_ | refine W.opn rfl op_eql rfl ?_ | refine W.opn rfl op_neq rfl ?_ | refine W.opn rfl (op_sub (by omega) (by omega)) rfl ?_ | refine W.opn rfl (op_add (by omega) (by omega)) rfl ?_ | refine W.opn (v := .int _ _) rfl rfl rfl ?_ | refine W.opn (v := .ptr _) rfl rfl rfl ?_ | refine W.opn (v := .bool _) rfl rfl rfl ?_ | refine W.opn (v := .slice _ _ _ _) rfl rfl rfl ?_ | refine W.opn (v := .agg _) rfl rfl rfl ?_ | refine W.opn (v := .tup _) rfl rfl rfl ?_ | refine W.opn rfl rfl rfl ?_ | refine W.offn rfl rfl ?_ | refine W.nil ?_)
    obtain ⟨k, hk⟩ : ∃ k : Nat, n.tmod (Int.ofNat (j + 1)) + Int.ofNat (j + 1) = (k : Int) := ⟨(n.tmod (Int.ofNat (j + 1)) + Int.ofNat (j + 1)).toNat, by omega⟩
    have q := q k (by omega)
    rw [← hk] at q
    exact q
  · rw [decide_eq_false c]
    refine W.cond (x := false) rfl (fun hc => by cases hc) (fun _ => ?_)
    repeat (first | (with_reducible first | refine W.seq ?_ | refine W.block ?_ | refine W.region ?_ | refine W.draws ?_ | refine W.skip ?_ | refine W.exit ?_ | refine W.ret ?_ | refine SeqQ.normal ?_ | refine SeqQ.exit ?_ | refine SeqQ.ret ?_ | refine BlockQ.exit ?_ | refine BlockQ.normal ?_ | refine BlockQ.ret ?_ | refine BlockQ.other rfl ?_ | refine LoopQ.exit ?_ | refine CallQ.val ?_ | refine CutQ.normal ?_ | refine LoopQ.ret ?_) | refine W.offn rfl rfl ?_ | refine W.opn rfl op_lss rfl ?_ | refine W.opn rfl op_leq rfl ?_ | refine W.opn rfl op_eql rfl ?_ | refine W.opn rfl op_neq rfl ?_ | refine W.opn rfl (op_sub (by omega) (by omega)) rfl ?_ | refine W.opn rfl (op_add (by omega) (by omega)) rfl ?_ | refine W.opn (v := .int _ _) rfl rfl rfl ?_ | refine W.opn (v := .ptr _) rfl rfl rfl ?_ | refine W.opn (v := .bool _) rfl rfl rfl ?_ | refine W.opn (v := .slice _ _ _ _) rfl rfl rfl ?_ | refine W.opn (v := .agg _) rfl rfl rfl ?_ | refine W.opn (v := .tup _) rfl rfl rfl ?_ | refine W.opn rfl rfl rfl ?_ | refine W.offn rfl rfl ?_ | refine W.nil ?_)
    obtain ⟨k, hk⟩ : ∃ k : Nat, n.tmod (Int.ofNat (j + 1)) = (k : Int) := ⟨(n.tmod (Int.ofNat (j + 1))).toNat, by omega⟩
    have q := q k (by omega)
    rw [← hk] at q
    exact q

end
end Go.Proofs.Ytdcegklfbhfddaa
