/- Where a name is found first, in plain words. No condition, no program. -/
import Derived.Test.YtmgpjfnlciapkaaGreatDoorZA
import Derived.Test.YtmgpjfnlciapkaaGreatDoorXY
import Derived.Test.YtmgpjfnlciapkaaGreatDoorXQ1
import Derived.Test.YtmgpjfnlciapkaaGreatDoorZC
import Derived.Test.YtmgpjfnlciapkaaGreatDoorXQ6
import Derived.Test.YtmgpjfnlciapkaaGreatDoorYQ
import Derived.Test.YtmgpjfnlciapkaaGreatDoorYZ
set_option linter.unusedVariables false
set_option linter.unusedSimpArgs false
noncomputable section
namespace Go.CM.Tt
def findL (s : Str) : List (List Str) → Int → Int × Int
  | [], _ => (0, 0)
  | l :: r, k => if 0 ≤ place l s then (k, place l s) else findL s r (k + 1)
def NamesD.find (n : NamesD) (s : Str) : Int × Int := findL s n.lists 0
theorem findL_some {s : Str} : ∀ {L : List (List Str)} {i : Int} {k : Nat} {l : List Str}, (∀ n m, n < k → L[n]? = some m → ¬ 0 ≤ place m s) → L[k]? = some l → 0 ≤ place l s → findL s L i = (i + k, place l s)
  | [], _, _, _, _, h, _ => by simp at h
  | a :: L, i, 0, l, _, h, hp => by
    have : a = l := by simpa using h
    subst this
    unfold findL
    rw [if_pos hp]; simp
  | a :: L, i, k + 1, l, hn, h, hp => by
    have h0 := hn 0 a (by omega) rfl
    have ih := findL_some (L := L) (i := i + 1) (k := k) (l := l) (fun n m hm hl => hn (n + 1) m (by omega) (by simpa using hl)) (by simpa using h) hp
    unfold findL
    rw [if_neg h0, ih]
    congr 1
    omega
theorem findL_none {s : Str} : ∀ {L : List (List Str)} {i : Int}, (∀ (n : Nat) m, L[n]? = some m → ¬ 0 ≤ place m s) → findL s L i = (0, 0)
  | [], _, _ => rfl
  | a :: L, i, hn => by
    have ih := findL_none (L := L) (i := i + 1) fun n m hl => hn (n + 1) m (by simpa using hl)
    unfold findL
    rw [if_neg (hn 0 a rfl), ih]
end Go.CM.Tt

namespace Go.Proofs.YtmgpjfnlciapkaaGreatDoor
open Go Go.CM Go.CM.Tt
noncomputable section
set_option maxHeartbeats 16000000
theorem find_w {h : Heap} {tm : Tm} {Q : R → Prop} {cs : List CV} {w : WorldD} (fr : Fresh h) (r : Rp.R h cs w) (s : Str) (sh : ∀ l ∈ w.names.lists, l.length ≤ 1099511627776) (q : ∀ h', Ext h h' → Q (.val (.tup [.int .i64 (w.names.find s).1, .int .i64 (w.names.find s).2]) h')) : W E1 (.call (.fn 9 [] []) [.agg cs, .str s]) tm h Q := by
  obtain ⟨v1, v2, v3, v4, v5, v6, v7, v8, v9, v10, v11, rfl, s1, s2, s3, s4, s5, s6, _⟩ := r
  refine W.fn (s := fnOf Tryz.f9) rfl rfl rfl rfl ?_
  repeat (refine W.seq ?_)
  refine W.region ?_
  refine W.box rfl rfl rfl fun H1 X1 n1 g1 L1 => ?_
  repeat (first | (with_reducible first | refine W.seq ?_ | refine W.region ?_ | refine SeqQ.normal ?_) | refine W.opn (v := .int _ _) rfl rfl rfl ?_ | refine W.opn (v := .ptr _) rfl rfl rfl ?_ | refine W.nil ?_)
  refine W.call rfl rfl rfl (kinds_w (X1.fr fr) fun h2 z X2 z1 z2 Lz => ?_)
  obtain ⟨lists, hlists⟩ : ∃ lists, lists = w.names.lists := ⟨_, rfl⟩
  obtain ⟨ps, hps⟩ : ∃ ps : List CV, ps = [.ptr (some (z, 0)), .ptr (some (h.next, 0 + 1 + 0)), .ptr (some (h.next, 0 + 1 + 1)), .ptr (some (h.next, 0 + 1 + 2)), .ptr (some (h.next, 0 + 1 + 3)), .ptr (some (h.next, 0 + 1 + 4)), .ptr (some (h.next, 0 + 1 + 5))] := ⟨_, rfl⟩
  have Y2 := X1.trans X2
  have L2 := L1.ext X2
  have fam : ∀ k, k < 7 → ∃ p o v, nth ps k = some (.ptr (some (p, o))) ∧ ∀ J, Ext h2 J → LocE J p o [v] ∧ Sl J v (lists.getD k []) := by
    intro k hk
    rw [hps, hlists]
    rcases k with _ | _ | _ | _ | _ | _ | _ | k
    · exact ⟨z, 0, _, rfl, fun J XJ => ⟨Lz.ext XJ, Sl.nil⟩⟩
    · exact ⟨h.next, 0 + 1 + 0, v1, rfl, fun J XJ => ⟨LocE.sub (k := 1) (m := 1) (L2.ext XJ) rfl, s1.ext (Y2.trans XJ)⟩⟩
    · exact ⟨h.next, 0 + 1 + 1, v2, rfl, fun J XJ => ⟨LocE.sub (k := 2) (m := 1) (L2.ext XJ) rfl, s2.ext (Y2.trans XJ)⟩⟩
    · exact ⟨h.next, 0 + 1 + 2, v3, rfl, fun J XJ => ⟨LocE.sub (k := 3) (m := 1) (L2.ext XJ) rfl, s3.ext (Y2.trans XJ)⟩⟩
    · exact ⟨h.next, 0 + 1 + 3, v4, rfl, fun J XJ => ⟨LocE.sub (k := 4) (m := 1) (L2.ext XJ) rfl, s4.ext (Y2.trans XJ)⟩⟩
    · exact ⟨h.next, 0 + 1 + 4, v5, rfl, fun J XJ => ⟨LocE.sub (k := 5) (m := 1) (L2.ext XJ) rfl, s5.ext (Y2.trans XJ)⟩⟩
    · exact ⟨h.next, 0 + 1 + 5, v6, rfl, fun J XJ => ⟨LocE.sub (k := 6) (m := 1) (L2.ext XJ) rfl, s6.ext (Y2.trans XJ)⟩⟩
    · omega
  refine W.keep5 1 2 4 5 10 fun T k1 k2 k4 k5 k10 => ?_
  conv at k1 => rhs; whnf
  conv at k2 => rhs; whnf
  conv at k4 => rhs; whnf
  conv at k5 => rhs; whnf
  conv at k10 => rhs; whnf
  rw [show T = (((((T.set 1 (some (T.look 1))).set 2 (some (T.look 2))).set 4 (some (T.look 4))).set 5 (some (T.look 5))).set 10 (some (T.look 10))) from rfl, k1, k2, k4, k5, k10]
  clear k1 k2 k4 k5 k10
  repeat (first | (with_reducible first | refine W.block ?_ | refine SeqQ.normal ?_) | refine W.opn (v := .int _ _) rfl rfl rfl ?_ | refine W.nil ?_)
  refine W.keep5 1 4 5 10 11 fun T k1 k4 k5 k10 k11 => ?_
  conv at k1 => rhs; whnf
  conv at k4 => rhs; whnf
  conv at k5 => rhs; whnf
  conv at k10 => rhs; whnf
  conv at k11 => rhs; whnf
  rw [show T = (((((T.set 1 (some (T.look 1))).set 4 (some (T.look 4))).set 5 (some (T.look 5))).set 10 (some (T.look 10))).set 11 (some (T.look 11))) from rfl, k1, k4, k5, k10, k11]
  clear k1 k4 k5 k10 k11
  refine W.loop (σ := Nat) (fun k tm h' => tm.look 1 = .str s ∧ tm.look 10 = .agg ps ∧ tm.look 11 = .int .i64 (k : Int) ∧ k ≤ 7 ∧ Ext h2 h' ∧ ∀ n m, n < k → lists[n]? = some m → ¬ 0 ≤ place m s) (fun k => 7 - k) ?_ (s := 0)
    ⟨rfl, by rw [hps]; rfl, rfl, Nat.zero_le _, Ext.refl _, fun n m hn => by omega⟩
  rintro k tm h' ⟨w1, w10, w11, hk, X, hn⟩
  obtain ⟨T, rfl⟩ : ∃ T : Tm, tm = (((T.set 1 (some (.str s))).set 10 (some (.agg ps))).set 11 (some (.int .i64 (k : Int)))) := ⟨tm, (show tm = (((tm.set 1 (some (tm.look 1))).set 10 (some (tm.look 10))).set 11 (some (tm.look 11))) by rfl).trans (by rw [w1, w10, w11])⟩
  clear w1 w10 w11
  have hl7 : lists.length = 7 := by rw [hlists]; rfl
  by_cases c1 : k < 7
  · obtain ⟨p, o, v, hpk, hv⟩ := fam k c1
    obtain ⟨Lv, sv⟩ := hv h' X
    obtain ⟨l, hl⟩ : ∃ l, l = lists.getD k [] := ⟨_, rfl⟩
    rw [← hl] at sv
    have hlk : lists[k]? = some l := by rw [hl, hlists]; rcases k with _ | _ | _ | _ | _ | _ | _ | k <;> first | rfl | omega
    repeat (first | (with_reducible first | refine W.seq ?_ | refine W.block ?_ | refine W.region ?_ | refine W.skip ?_ | refine SeqQ.normal ?_) | refine W.opn rfl op_lss rfl ?_ | refine W.opn (v := .int _ _) rfl rfl rfl ?_ | refine W.nil ?_ | refine W.cond (x := true) rfl (fun _ => ?_) (fun hc => by cases hc) | rw [decide_eq_true (by first | assumption | omega)])
    refine W.ixv rfl rfl rfl rfl rfl rfl rfl rfl rfl (place_of (j := k) rfl c1) hpk ?_
    repeat (first | (with_reducible first | refine W.seq ?_ | refine W.region ?_ | refine SeqQ.normal ?_) | refine W.opn (v := .int _ _) rfl rfl rfl ?_ | refine W.opn (v := .ptr _) rfl rfl rfl ?_ | refine W.opn rfl rfl rfl ?_ | refine W.nil ?_ | refine W.ld0 (by assumption) (by (repeat (first | assumption | exact Ext.refl _ | refine Ext.trans ?_ (by assumption))); done) rfl rfl rfl rfl rfl rfl rfl rfl ?_)
    refine W.call rfl rfl rfl (place_w s sv (sh l (by rw [← hlists]; exact List.mem_of_getElem? hlk)) ?_)
    by_cases c2 : 0 ≤ place l s
    · have e : w.names.find s = ((k : Int), place l s) := by
        have := findL_some (i := 0) hn hlk c2
        rw [Int.zero_add] at this
        rw [← this, hlists]; rfl
      rw [e] at q
      repeat (first | (with_reducible first | refine W.seq ?_ | refine W.region ?_ | refine W.ret ?_ | refine SeqQ.normal ?_ | refine SeqQ.ret ?_ | refine BlockQ.ret ?_ | refine CallQ.val ?_ | refine LoopQ.ret ?_) | refine W.opn rfl op_leq rfl ?_ | refine W.opn (v := .int _ _) rfl rfl rfl ?_ | refine W.nil ?_ | refine W.cond (x := true) rfl (fun _ => ?_) (fun hc => by cases hc) | rw [decide_eq_true (by first | assumption | omega)])
      exact q _ (Y2.trans X)
    · repeat (first | (with_reducible first | refine W.seq ?_ | refine W.region ?_ | refine W.skip ?_ | refine SeqQ.normal ?_ | refine BlockQ.normal ?_ | refine CallQ.val ?_) | refine W.opn rfl op_leq rfl ?_ | refine W.opn rfl (op_add (by omega) (by omega)) rfl ?_ | refine W.opn (v := .int _ _) rfl rfl rfl ?_ | refine W.nil ?_ | refine W.cond (x := false) rfl (fun hc => by cases hc) (fun _ => ?_) | rw [decide_eq_false (by first | assumption | omega)])
      exact ⟨k + 1, by show 7 - (k + 1) < 7 - k; omega, rfl, rfl, rfl, c1, X, fun n m hm hl' => by
        by_cases e : n = k
        · rw [e, hlk] at hl'; cases hl'; exact c2
        · exact hn n m (by omega) hl'⟩
  · have e : w.names.find s = (0, 0) := by
      unfold NamesD.find
      rw [← hlists]
      exact findL_none fun n m hm => hn n m (by
        have := (List.getElem?_eq_some_iff.1 hm).1
        omega) hm
    rw [e] at q
    repeat (first | (with_reducible first | refine W.seq ?_ | refine W.region ?_ | refine W.exit ?_ | refine W.ret ?_ | refine SeqQ.normal ?_ | refine SeqQ.exit ?_ | refine BlockQ.exit ?_ | refine LoopQ.exit ?_) | refine W.opn rfl op_lss rfl ?_ | refine W.opn (v := .int _ _) rfl rfl rfl ?_ | refine W.nil ?_ | refine W.cond (x := false) rfl (fun hc => by cases hc) (fun _ => ?_) | rw [decide_eq_false (by first | assumption | omega)])
    exact q _ (Y2.trans X)
end
end Go.Proofs.YtmgpjfnlciapkaaGreatDoor

namespace Go.Proofs.YtmgpjfnlciapkaaGreatDoor
open Go Go.CM Go.CM.Tt
noncomputable section
set_option maxHeartbeats 8000000
theorem own_nt {h : Heap} {tm : Tm} {Q : R → Prop} {v : CV} {l : List Int} (sl : Sl h v l) (hm : l.length ≤ 1073741824)
    (q : ∀ h' v', Ext h h' → OwnR h' h.next 1 v' (l.map Flat.enc) → Q (.val v' h')) : W E1 (.call (.fn 39 [] []) [v]) tm h Q := by
  refine W.fn (s := fnOf Tryz.f39) rfl rfl rfl rfl ?_
  have sg := Sl.to_map Flat.iff sl
  have hlen : (l.map (Flat.enc : Int → List CV)).length = l.length := List.length_map _
  repeat (first | (with_reducible first | refine W.seq ?_ | refine W.region ?_ | refine SeqQ.normal ?_) | refine W.bs1 rfl rfl rfl rfl fun h_ X_ n_ g_ S_ => ?_ | refine W.opn (v := .slice _ _ _ _) rfl rfl rfl ?_ | refine W.opn rfl rfl rfl ?_ | refine W.nil ?_)
  refine W.apR X_ (z := 1) (l := []) (l2 := l.map Flat.enc) (.inr ⟨h.next, 0, false, rfl, Nat.le_refl _, by omega, g_, fun e he => (by cases he), .inl ⟨rfl, .inl rfl⟩⟩) (sg.ext X_) rfl rfl rfl rfl rfl rfl rfl rfl rfl rfl rfl rfl (by rw [hlen]; show (0 + l.length) * 8 ≤ _; omega) fun v' h' X O => ?_
  repeat (first | (with_reducible first | refine W.ret ?_ | refine SeqQ.normal ?_) | refine W.opn rfl rfl rfl ?_ | refine W.nil ?_)
  exact q _ _ X O
theorem own_pathW {h : Heap} {tm : Tm} {Q : R → Prop} {v : CV} {l : List PathW} (sl : Sl h v l) (hm : l.length ≤ 1073741824)
    (q : ∀ h' v', Ext h h' → OwnR h' h.next 3 v' (l.map Flat.enc) → Q (.val v' h')) : W E1 (.call (.fn 35 [] []) [v]) tm h Q := by
  refine W.fn (s := fnOf Tryz.f35) rfl rfl rfl rfl ?_
  have sg := Sl.to_map Flat.iff sl
  have hlen : (l.map (Flat.enc : PathW → List CV)).length = l.length := List.length_map _
  repeat (first | (with_reducible first | refine W.seq ?_ | refine W.region ?_ | refine SeqQ.normal ?_) | refine W.bs1 rfl rfl rfl rfl fun h_ X_ n_ g_ S_ => ?_ | refine W.opn (v := .slice _ _ _ _) rfl rfl rfl ?_ | refine W.opn rfl rfl rfl ?_ | refine W.nil ?_)
  refine W.apR X_ (z := 3) (l := []) (l2 := l.map Flat.enc) (.inr ⟨h.next, 0, false, rfl, Nat.le_refl _, by omega, g_, fun e he => (by cases he), .inl ⟨rfl, .inl rfl⟩⟩) (sg.ext X_) rfl rfl rfl rfl rfl rfl rfl rfl rfl rfl rfl rfl (by rw [hlen]; show (0 + l.length) * 24 ≤ _; omega) fun v' h' X O => ?_
  repeat (first | (with_reducible first | refine W.ret ?_ | refine SeqQ.normal ?_) | refine W.opn rfl rfl rfl ?_ | refine W.nil ?_)
  exact q _ _ X O
theorem own_doorW {h : Heap} {tm : Tm} {Q : R → Prop} {v : CV} {l : List DoorW} (sl : Sl h v l) (hm : l.length ≤ 1073741824)
    (q : ∀ h' v', Ext h h' → OwnR h' h.next 6 v' (l.map Flat.enc) → Q (.val v' h')) : W E1 (.call (.fn 36 [] []) [v]) tm h Q := by
  refine W.fn (s := fnOf Tryz.f36) rfl rfl rfl rfl ?_
  have sg := Sl.to_map Flat.iff sl
  have hlen : (l.map (Flat.enc : DoorW → List CV)).length = l.length := List.length_map _
  repeat (first | (with_reducible first | refine W.seq ?_ | refine W.region ?_ | refine SeqQ.normal ?_) | refine W.bs1 rfl rfl rfl rfl fun h_ X_ n_ g_ S_ => ?_ | refine W.opn (v := .slice _ _ _ _) rfl rfl rfl ?_ | refine W.opn rfl rfl rfl ?_ | refine W.nil ?_)
  refine W.apR X_ (z := 6) (l := []) (l2 := l.map Flat.enc) (.inr ⟨h.next, 0, false, rfl, Nat.le_refl _, by omega, g_, fun e he => (by cases he), .inl ⟨rfl, .inl rfl⟩⟩) (sg.ext X_) rfl rfl rfl rfl rfl rfl rfl rfl rfl rfl rfl rfl (by rw [hlen]; show (0 + l.length) * 48 ≤ _; omega) fun v' h' X O => ?_
  repeat (first | (with_reducible first | refine W.ret ?_ | refine SeqQ.normal ?_) | refine W.opn rfl rfl rfl ?_ | refine W.nil ?_)
  exact q _ _ X O
theorem own_tripW {h : Heap} {tm : Tm} {Q : R → Prop} {v : CV} {l : List TripW} (sl : Sl h v l) (hm : l.length ≤ 1073741824)
    (q : ∀ h' v', Ext h h' → OwnR h' h.next 4 v' (l.map Flat.enc) → Q (.val v' h')) : W E1 (.call (.fn 37 [] []) [v]) tm h Q := by
  refine W.fn (s := fnOf Tryz.f37) rfl rfl rfl rfl ?_
  have sg := Sl.to_map Flat.iff sl
  have hlen : (l.map (Flat.enc : TripW → List CV)).length = l.length := List.length_map _
  repeat (first | (with_reducible first | refine W.seq ?_ | refine W.region ?_ | refine SeqQ.normal ?_) | refine W.bs1 rfl rfl rfl rfl fun h_ X_ n_ g_ S_ => ?_ | refine W.opn (v := .slice _ _ _ _) rfl rfl rfl ?_ | refine W.opn rfl rfl rfl ?_ | refine W.nil ?_)
  refine W.apR X_ (z := 4) (l := []) (l2 := l.map Flat.enc) (.inr ⟨h.next, 0, false, rfl, Nat.le_refl _, by omega, g_, fun e he => (by cases he), .inl ⟨rfl, .inl rfl⟩⟩) (sg.ext X_) rfl rfl rfl rfl rfl rfl rfl rfl rfl rfl rfl rfl (by rw [hlen]; show (0 + l.length) * 32 ≤ _; omega) fun v' h' X O => ?_
  repeat (first | (with_reducible first | refine W.ret ?_ | refine SeqQ.normal ?_) | refine W.opn rfl rfl rfl ?_ | refine W.nil ?_)
  exact q _ _ X O
theorem own_hazW {h : Heap} {tm : Tm} {Q : R → Prop} {v : CV} {l : List HazW} (sl : Sl h v l) (hm : l.length ≤ 1073741824)
    (q : ∀ h' v', Ext h h' → OwnR h' h.next 5 v' (l.map Flat.enc) → Q (.val v' h')) : W E1 (.call (.fn 38 [] []) [v]) tm h Q := by
  refine W.fn (s := fnOf Tryz.f38) rfl rfl rfl rfl ?_
  have sg := Sl.to_map Flat.iff sl
  have hlen : (l.map (Flat.enc : HazW → List CV)).length = l.length := List.length_map _
  repeat (first | (with_reducible first | refine W.seq ?_ | refine W.region ?_ | refine SeqQ.normal ?_) | refine W.bs1 rfl rfl rfl rfl fun h_ X_ n_ g_ S_ => ?_ | refine W.opn (v := .slice _ _ _ _) rfl rfl rfl ?_ | refine W.opn rfl rfl rfl ?_ | refine W.nil ?_)
  refine W.apR X_ (z := 5) (l := []) (l2 := l.map Flat.enc) (.inr ⟨h.next, 0, false, rfl, Nat.le_refl _, by omega, g_, fun e he => (by cases he), .inl ⟨rfl, .inl rfl⟩⟩) (sg.ext X_) rfl rfl rfl rfl rfl rfl rfl rfl rfl rfl rfl rfl (by rw [hlen]; show (0 + l.length) * 40 ≤ _; omega) fun v' h' X O => ?_
  repeat (first | (with_reducible first | refine W.ret ?_ | refine SeqQ.normal ?_) | refine W.opn rfl rfl rfl ?_ | refine W.nil ?_)
  exact q _ _ X O
end
end Go.Proofs.YtmgpjfnlciapkaaGreatDoor

noncomputable section
namespace Go.CM.Tt
section
variable {h h' : Heap} {lo : Nat}
abbrev RowE := Nat × CV × List (List CV)
def idsR (rs : List RowE) : List Nat := rs.flatMap fun r => idOf r.2.1
structure OwnG (h : Heap) (lo : Nat) (rs : List RowE) (xs : List Nat) : Prop where
  o : ∀ r ∈ rs, OwnR h lo r.1 r.2.1 r.2.2
  nd : (idsR rs ++ xs).Nodup
  x : ∀ k ∈ xs, lo ≤ k ∧ k < h.next
theorem OwnG.ext {rs : List RowE} {xs : List Nat} (g : OwnG h lo rs xs) (X : Ext h h') : OwnG h' lo rs xs := ⟨fun r hr => (g.o r hr).ext X, g.nd, fun k hk => ⟨(g.x k hk).1, Nat.lt_of_lt_of_le (g.x k hk).2 X.next⟩⟩
theorem OwnG.lt {rs : List RowE} {xs : List Nat} (g : OwnG h lo rs xs) : ∀ k ∈ idsR rs ++ xs, lo ≤ k ∧ k < h.next := by
  intro k hk
  rcases List.mem_append.1 hk with hk | hk
  · obtain ⟨r, hr, hi⟩ := List.mem_flatMap.1 hk
    exact OwnR.ids (g.o r hr) k hi
  · exact g.x k hk
theorem OwnG.turn {A B : List RowE} {z : Nat} {v m : CV} {l l' : List (List CV)} {xs : List Nat} (g : OwnG h lo (A ++ (z, v, l) :: B) xs) (hn : h.next ≤ h'.next) (hk : ∀ k, k < h.next → k < lo ∨ idOf v ≠ [k] → h'.get k = h.get k) (om : OwnR h' lo z m l') (hi : idOf m = idOf v ∨ ∃ j, idOf m = [j] ∧ h.next ≤ j) : OwnG h' lo (A ++ (z, m, l') :: B) xs ∧ ∀ k ∈ xs, h'.get k = h.get k := by
  have e : ∀ (m : CV) (l : List (List CV)), idsR (A ++ (z, m, l) :: B) ++ xs = idsR A ++ (idOf m ++ (idsR B ++ xs)) := fun m l => by
    unfold idsR
    rw [List.flatMap_append, List.flatMap_cons, List.append_assoc, List.append_assoc]
  have nd := g.nd
  rw [e] at nd
  have h1 := List.nodup_append.1 nd
  have h2 := List.nodup_append.1 h1.2.1
  have lt : ∀ k, k ∈ idsR A ∨ k ∈ idsR B ++ xs → k < h.next := fun k hk => (g.lt k (by
    rw [e]
    rcases hk with hk | hk
    · exact List.mem_append_left _ hk
    · exact List.mem_append_right _ (List.mem_append_right _ hk))).2
  have ne : ∀ k, k ∈ idsR A ∨ k ∈ idsR B ++ xs → idOf v ≠ [k] := fun k hk e5 => by
    rcases hk with hk | hk
    · exact h1.2.2 k hk k (by rw [e5]; simp) rfl
    · exact h2.2.2 k (by rw [e5]; simp) k hk rfl
  have kp : ∀ k, k ∈ idsR A ∨ k ∈ idsR B ++ xs → h'.get k = h.get k := fun k hk2 => hk k (lt k hk2) (.inr (ne k hk2))
  refine ⟨⟨fun r hr => ?_, ?_, fun k hk => ⟨(g.x k hk).1, Nat.lt_of_lt_of_le (g.x k hk).2 hn⟩⟩, fun k hk => kp k (.inr (List.mem_append_right _ hk))⟩
  · rcases List.mem_append.1 hr with hr | hr
    · exact (g.o r (List.mem_append_left _ hr)).other hn fun k _ _ hi => kp k (.inl (List.mem_flatMap.2 ⟨r, hr, by rw [hi]; simp⟩))
    · rcases List.mem_cons.1 hr with rfl | hr
      · exact om
      · exact (g.o r (List.mem_append_right _ (List.mem_cons_of_mem _ hr))).other hn fun k _ _ hi => kp k (.inr (List.mem_append_left _ (List.mem_flatMap.2 ⟨r, hr, by rw [hi]; simp⟩)))
  · rw [e]
    rcases hi with hi | ⟨jj, hi, hjj⟩
    · rw [hi]; exact nd
    · rw [hi]
      refine List.nodup_append.2 ⟨h1.1, List.nodup_append.2 ⟨by simp, h2.2.1, fun a ha b hb e => ?_⟩, fun a ha b hb e => ?_⟩
      · rw [List.mem_singleton] at ha
        have := lt b (.inr hb)
        omega
      · rcases List.mem_append.1 hb with hb | hb
        · rw [List.mem_singleton] at hb
          have := lt a (.inl ha)
          omega
        · exact h1.2.2 a ha b (List.mem_append_right _ hb) e
theorem OwnG.more {rs : List RowE} {xs : List Nat} {z n : Nat} {v : CV} {l : List (List CV)} (g : OwnG h lo rs xs) (ov : OwnR h lo z v l) (hx : ∀ k ∈ idsR rs ++ xs, k < n) (hv : ∀ k ∈ idOf v, n ≤ k) : OwnG h lo (rs ++ [(z, v, l)]) xs := by
  refine ⟨fun r hr => ?_, ?_, g.x⟩
  · rcases List.mem_append.1 hr with hr | hr
    · exact g.o r hr
    · rw [List.mem_singleton.1 hr]; exact ov
  · have h1 := List.nodup_append.1 g.nd
    unfold idsR
    rw [List.flatMap_append, List.flatMap_cons, List.flatMap_nil, List.append_nil, List.append_assoc]
    refine List.nodup_append.2 ⟨h1.1, List.nodup_append.2 ⟨OwnR.idNodup _, h1.2.1, fun a ha b hb e => ?_⟩, fun a ha b hb e => ?_⟩
    · have := hv a ha
      have := hx b (List.mem_append_right _ hb)
      omega
    · rcases List.mem_append.1 hb with hb | hb
      · have := hv b hb
        have := hx a (List.mem_append_left _ ha)
        omega
      · exact h1.2.2 a ha b hb e
theorem OwnG.nil : OwnG h lo [] [] := ⟨(fun _ h => (by cases h)), (by simp [idsR]), (fun _ h => (by cases h))⟩
theorem OwnG.low {lo' : Nat} {rs : List RowE} {xs : List Nat} (g : OwnG h lo rs xs) (hl : lo' ≤ lo) : OwnG h lo' rs xs := ⟨fun r hr => (g.o r hr).low hl, g.nd, fun k hk => ⟨Nat.le_trans hl (g.x k hk).1, (g.x k hk).2⟩⟩
theorem OwnG.keep {rs : List RowE} {xs : List Nat} (g : OwnG h lo rs xs) (hn : h.next ≤ h'.next) (hk : ∀ k ∈ idsR rs ++ xs, h'.get k = h.get k) : OwnG h' lo rs xs :=
  ⟨fun r hr => (g.o r hr).other hn fun k _ _ hi => hk k (List.mem_append_left _ (List.mem_flatMap.2 ⟨r, hr, by rw [hi]; simp⟩)), g.nd, fun k hk2 => ⟨(g.x k hk2).1, Nat.lt_of_lt_of_le (g.x k hk2).2 hn⟩⟩
def OwnGB (h : Heap) (lo n : Nat) (rs : List RowE) : Prop := OwnG h lo rs [] ∧ ∀ k ∈ idsR rs, k < n
theorem OwnGB.nil : OwnGB h lo lo [] := ⟨OwnG.nil, fun k hk => by simp [idsR] at hk⟩
theorem OwnGB.more {rs : List RowE} {z n n1 n2 : Nat} {v : CV} {l : List (List CV)} (g : OwnGB h lo n rs) (ov : OwnR h lo z v l) (hv : ∀ k ∈ idOf v, n1 ≤ k ∧ k < n2) (h1 : n ≤ n1) (h2 : n1 ≤ n2) : OwnGB h lo n2 (rs ++ [(z, v, l)]) := by
  refine ⟨g.1.more (n := n1) ov (fun k hk => ?_) (fun k hk => (hv k hk).1), fun k hk => ?_⟩
  · rw [List.append_nil] at hk
    exact Nat.lt_of_lt_of_le (g.2 k hk) h1
  · unfold idsR at hk
    rw [List.flatMap_append, List.mem_append] at hk
    rcases hk with hk | hk
    · have := g.2 k hk; omega
    · rw [List.flatMap_cons, List.flatMap_nil, List.append_nil] at hk
      exact (hv k hk).2
end
end Go.CM.Tt

noncomputable section
namespace Go.CM.Tt
def OwnRW (h : Heap) (lo : Nat) (e : List CV) (d : RouteW) : Prop := ∃ u1 u2 u3, e = [u1, u2, u3] ∧ OwnR h lo 1 u1 (d.stops.map Flat.enc) ∧ OwnR h lo 1 u2 (d.rides.map Flat.enc) ∧ OwnR h lo 1 u3 (d.stays.map Flat.enc)
section
variable {h h' : Heap} {lo lo' : Nat} {e : List CV} {d : RouteW} 
theorem OwnRW.ext (o : OwnRW h lo e d) (x : Ext h h') : OwnRW h' lo e d := by
  obtain ⟨u1, u2, u3, rfl, o1, o2, o3⟩ := o
  exact ⟨u1, u2, u3, rfl, o1.ext x, o2.ext x, o3.ext x⟩
theorem OwnRW.low (o : OwnRW h lo e d) (hl : lo' ≤ lo) : OwnRW h lo' e d := by
  obtain ⟨u1, u2, u3, rfl, o1, o2, o3⟩ := o
  exact ⟨u1, u2, u3, rfl, o1.low hl, o2.low hl, o3.low hl⟩
theorem OwnRW.other (o : OwnRW h lo e d) (hn : h.next ≤ h'.next) (hk : ∀ k, k ∈ idsOf e → h'.get k = h.get k) : OwnRW h' lo e d := by
  obtain ⟨u1, u2, u3, rfl, o1, o2, o3⟩ := o
  exact ⟨u1, u2, u3, rfl, o1.other hn fun k _ _ hi => hk k (by simp [idsOf, hi]), o2.other hn fun k _ _ hi => hk k (by simp [idsOf, hi]), o3.other hn fun k _ _ hi => hk k (by simp [idsOf, hi])⟩
theorem OwnRW.ids (o : OwnRW h lo e d) : ∀ k ∈ idsOf e, lo ≤ k ∧ k < h.next := by
  obtain ⟨u1, u2, u3, rfl, o1, o2, o3⟩ := o
  intro k hk
  have hk : k ∈ idOf u1 ++ (idOf u2 ++ (idOf u3 ++ [])) := hk
  simp only [List.mem_append, List.not_mem_nil, or_false] at hk
  rcases hk with hk | hk | hk
  · exact OwnR.ids o1 k hk
  · exact OwnR.ids o2 k hk
  · exact OwnR.ids o3 k hk
theorem OwnRW.rp (o : OwnRW h lo e d) : Rp.R h e d := by
  obtain ⟨u1, u2, u3, rfl, o1, o2, o3⟩ := o
  exact ⟨u1, u2, u3, rfl, o1.toSl, o2.toSl, o3.toSl⟩
def OwnRws (h : Heap) (lo : Nat) (v : CV) (css : List (List CV)) (l : List RouteW) : Prop := OwnR h lo 3 v css ∧ css.length = l.length ∧ ∀ (j : Nat) (e : List CV) (d : RouteW), css[j]? = some e → l[j]? = some d → OwnRW h lo e d
theorem OwnRws.ext {v : CV} {css : List (List CV)} {l : List RouteW} (o : OwnRws h lo v css l) (x : Ext h h') : OwnRws h' lo v css l :=
  ⟨o.1.ext x, o.2.1, fun j e d he hd => (o.2.2 j e d he hd).ext x⟩
theorem OwnRws.low {v : CV} {css : List (List CV)} {l : List RouteW} (o : OwnRws h lo v css l) (hl : lo' ≤ lo) : OwnRws h lo' v css l :=
  ⟨o.1.low hl, o.2.1, fun j e d he hd => (o.2.2 j e d he hd).low hl⟩
theorem OwnRws.other {v : CV} {css : List (List CV)} {l : List RouteW} (o : OwnRws h lo v css l) (hn : h.next ≤ h'.next) (hk : ∀ k, k ∈ idOf v ++ idsIn css → h'.get k = h.get k) : OwnRws h' lo v css l :=
  ⟨o.1.other hn fun k _ _ hi => hk k (by simp [hi]), o.2.1, fun j e d he hd => (o.2.2 j e d he hd).other hn fun k hi => hk k (List.mem_append_right _ (List.mem_flatMap.2 ⟨e, List.mem_of_getElem? he, hi⟩))⟩
theorem OwnRws.idsI {v : CV} {css : List (List CV)} {l : List RouteW} (o : OwnRws h lo v css l) : ∀ k ∈ idsIn css, lo ≤ k ∧ k < h.next := by
  intro k hk
  obtain ⟨e, he, hi⟩ := List.mem_flatMap.1 hk
  obtain ⟨j, hj, hej⟩ := List.getElem_of_mem he
  have hd : l[j]? = some (l[j]'(by rw [← o.2.1]; exact hj)) := List.getElem?_eq_getElem _
  exact (o.2.2 j e _ (by rw [List.getElem?_eq_getElem hj, hej]) hd).ids k hi
theorem OwnRws.toSl {v : CV} {css : List (List CV)} {l : List RouteW} (o : OwnRws h lo v css l) : Sl h v l :=
  ⟨css, o.1.sl, o.2.1, fun j e d he hd => (o.2.2 j e d he hd).rp⟩
def WorldD.small (w : WorldD) : Prop := w.names.stops.length ≤ 1048576 ∧ w.names.paths.length ≤ 1048576 ∧ w.names.doors.length ≤ 1048576 ∧ w.names.routes.length ≤ 1048576 ∧ w.names.trips.length ≤ 1048576 ∧ w.names.hazards.length ≤ 1048576 ∧ w.paths.length ≤ 1048576 ∧ w.doors.length ≤ 1048576 ∧ w.routes.length ≤ 1048576 ∧ w.trips.length ≤ 1048576 ∧ w.hazards.length ≤ 1048576 ∧ ∀ r ∈ w.routes, r.stops.length ≤ 1048576 ∧ r.rides.length ≤ 1048576 ∧ r.stays.length ≤ 1048576
def flatW (w : WorldD) (p d t z m1 m2 m3 m4 m5 m6 : CV) : List RowE := [(3, p, w.paths.map Flat.enc), (6, d, w.doors.map Flat.enc), (4, t, w.trips.map Flat.enc), (5, z, w.hazards.map Flat.enc), (1, m1, w.names.stops.map Flat.enc), (1, m2, w.names.paths.map Flat.enc), (1, m3, w.names.doors.map Flat.enc), (1, m4, w.names.routes.map Flat.enc), (1, m5, w.names.trips.map Flat.enc), (1, m6, w.names.hazards.map Flat.enc)]
structure OwnWd (h : Heap) (lo : Nat) (hz m1 m2 m3 m4 m5 m6 p d vr t z : CV) (w : WorldD) : Prop where
  hz : hz = .int .i64 w.hz
  r : ∃ css, OwnRws h lo vr css w.routes ∧ OwnG h lo (flatW w p d t z m1 m2 m3 m4 m5 m6 ++ [(3, vr, css)]) (idsIn css)
theorem OwnWd.rp {hz m1 m2 m3 m4 m5 m6 p d vr t z : CV} {w : WorldD} (o : OwnWd h lo hz m1 m2 m3 m4 m5 m6 p d vr t z w) : Rp.R h [hz, m1, m2, m3, m4, m5, m6, p, d, vr, t, z] w := by
  obtain ⟨css, r1, r2⟩ := o.r
  have g : ∀ (j : Nat) {a : Nat} {v : CV} {l : List (List CV)}, (flatW w p d t z m1 m2 m3 m4 m5 m6)[j]? = some (a, v, l) → OwnR h lo a v l := fun j {_ _ _} hm => r2.o _ (List.mem_append_left _ (List.mem_of_getElem? hm))
  refine ⟨m1, m2, m3, m4, m5, m6, p, d, vr, t, z, by rw [o.hz], ?_, ?_, ?_, ?_, ?_, ?_, ?_, ?_, r1.toSl, ?_, ?_⟩
  · exact OwnR.toSl (α := Str) (lo := lo) (g 4 rfl)
  · exact OwnR.toSl (α := Str) (lo := lo) (g 5 rfl)
  · exact OwnR.toSl (α := Str) (lo := lo) (g 6 rfl)
  · exact OwnR.toSl (α := Str) (lo := lo) (g 7 rfl)
  · exact OwnR.toSl (α := Str) (lo := lo) (g 8 rfl)
  · exact OwnR.toSl (α := Str) (lo := lo) (g 9 rfl)
  · exact OwnR.toSl (α := PathW) (lo := lo) (g 0 rfl)
  · exact OwnR.toSl (α := DoorW) (lo := lo) (g 1 rfl)
  · exact OwnR.toSl (α := TripW) (lo := lo) (g 2 rfl)
  · exact OwnR.toSl (α := HazW) (lo := lo) (g 3 rfl)
end
end Go.CM.Tt
