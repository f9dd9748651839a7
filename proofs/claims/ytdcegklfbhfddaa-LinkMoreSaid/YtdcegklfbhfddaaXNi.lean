/- The first tick at which a link may be begun. No condition. -/
import Derived.Test.YtdcegklfbhfddaaXNh
namespace Go.Proofs.Ytdcegklfbhfddaa
set_option linter.unusedVariables false
set_option linter.unusedSimpArgs false
open Go Go.CM
noncomputable section
set_option maxHeartbeats 8000000

/-- A link's windows, its length. -/
def kOf (L : LinkD) (w : List (Int × Int)) : Wins.Link := ⟨w, L.door, L.opn, L.closed, L.len⟩
/-- What the movers tell. -/
def mv (L : LinkD) (w : List (Int × Int)) (j : Nat) (t : Int) : Int := match j with
  | 0 => Wins.gap 1 w t
  | 1 => if L.door = true then nextV L.opn t else t
  | _ => if L.door = true then t else Wins.gap L.len L.closed t
theorem mv_ge {L : LinkD} {w : List (Int × Int)} {j : Nat} {t : Int} {n : Nat} (ok : LinkOk n L) (ht : t ≤ 1099511627776) : t ≤ mv L w j t := by
  match j with
  | 0 => exact Wins.gap_ge _ _ _
  | 1 =>
    show t ≤ (if L.door = true then nextV L.opn t else t)
    split
    · unfold nextV
      cases hn : Wins.next L.opn t with
      | none => show t ≤ 4611686018427387904; omega
      | some y => exact (Wins.next_some ok.opn hn).1
    · exact Int.le_refl _
  | j + 2 =>
    show t ≤ (if L.door = true then t else Wins.gap L.len L.closed t)
    split
    · exact Int.le_refl _
    · exact Wins.gap_ge _ _ _
theorem mv_least {L : LinkD} {w : List (Int × Int)} {j : Nat} {t y : Int} {n : Nat} (ok : LinkOk n L) (hw : Wins.Good w (-1)) (hy : (kOf L w).May y) (ht : t ≤ y) : mv L w j t ≤ y := by
  obtain ⟨m1, m2, m3⟩ := hy
  match j with
  | 0 => exact Wins.gap_least (by omega) hw ht m1
  | 1 =>
    show (if L.door = true then nextV L.opn t else t) ≤ y
    split
    · rename_i hd
      obtain ⟨z, h1, h2⟩ := Wins.next_least ok.opn ht (m2 hd)
      unfold nextV
      rw [h1]
      exact h2
    · exact ht
  | j + 2 =>
    show (if L.door = true then t else Wins.gap L.len L.closed t) ≤ y
    split
    · exact ht
    · rename_i hd
      have h2 : L.door = false := by simpa using hd
      exact Wins.gap_least (by have := ok.low; omega) ok.closed ht (m3 h2)
theorem mv_all {L : LinkD} {w : List (Int × Int)} {t : Int} {n : Nat} (ok : LinkOk n L) (hw : Wins.Good w (-1)) (ht : t ≤ 1099511627776) (h : ∀ j, j < 3 → mv L w j t = t) : (kOf L w).May t := by
  refine ⟨(Wins.gap_same (by omega) hw).1 (h 0 (by omega)), fun hd => ?_, fun hd => ?_⟩
  · have h1 : (if L.door = true then nextV L.opn t else t) = t := h 1 (by omega)
    have hd : L.door = true := hd
    rw [if_pos hd] at h1
    unfold nextV at h1
    cases hn : Wins.next L.opn t with
    | none => rw [hn] at h1; have : (4611686018427387904 : Int) = t := h1; omega
    | some y =>
      rw [hn] at h1
      have h1 : y = t := h1
      rw [h1] at hn
      exact (Wins.next_same ok.opn).1 hn
  · have h1 : (if L.door = true then t else Wins.gap L.len L.closed t) = t := h 2 (by omega)
    have hd' : L.door = false := hd
    rw [if_neg (by rw [hd']; simp)] at h1
    exact (Wins.gap_same (by have := ok.low; show 1 ≤ L.len; omega) ok.closed).1 h1

/-- An element of an array's value. -/
theorem W.ixv {E : Env} {tm : Tm} {h : Heap} {Q : R → Prop} {all rest : List Oper} {o : Oper} {t e : TypeId} {x y : Operand} {cs : List CV} {s es : TyS} {kk : IntKind} {j n : Nat} {m : Int} {v : CV} (hgd : guardOn all tm o = some true) (hop : o.op = .index t x y) (hx : cvOf E.globs tm x = .agg cs) (hy : cvOf E.globs tm y = .int kk m) (hs : E.ty t = some s) (hk : s.kind = .array n e) (hes : E.ty e = some es) (hz : es.size = 1) (hag : es.agg = false) (hn : place m n = some j) (hv : nth cs j = some v)
    (w : W E (.ops all rest) (putTmp tm o.dst v) h Q) : W E (.ops all (o :: rest)) tm h Q := by
  refine W.op hgd (v := v) (h1 := h) ?_ w
  unfold opAny
  rw [hop]
  show oIndex E (E.ty t) (cvOf E.globs tm x) (cvOf E.globs tm y) h = _
  rw [hx, hy, hs]
  unfold oIndex
  have hp : CM.part cs (j * es.size) es.size es.agg = some v := by
    rw [hag, hz, Nat.mul_one]; exact hv
  simp only [hk, hn, hes, hp, withH]

/-- The closures, each as told. -/
def Mover (K : Heap) (L : LinkD) (w : List (Int × Int)) (j : Nat) (f : CV) : Prop := ∀ (t : Int), tickOk t → ∀ (tm : Tm) (h' : Heap) (Q : R → Prop), Ext K h' → (∀ h2, Ext h' h2 → Q (.val (.int .i64 (mv L w j t)) h2)) → W E1 (.call f [.int .i64 t]) tm h' Q

theorem first_w {h : Heap} {tm : Tm} {Q : R → Prop} {hz : Int} {vc vl : CV} {cl : List (List (Int × Int))} {l : List LinkD} (sc : SlC h vc cl) (sl : SlL h vl l) (hm : Short l) (hn : l.length ≤ 1099511627776) (hmc : ∀ w ∈ cl, w.length ≤ 1099511627776) (hnc : cl.length ≤ 1099511627776)
    (ok : NetOk hz cl l) {i : Nat} {L : LinkD} (hi : l[i]? = some L) {na : Nat} (hna : L.a = (na : Int)) {w : List (Int × Int)} (hw : cl[na]? = some w) (t : Int) (ht : tickOk t)
    (q : ∀ h' (r : Option Int), Ext h h' → (kOf L w).First (hz - L.len) t r → Q (.val (.tup [.int .i64 (r.getD 4611686018427387904), .int .i64 ((r.map (· + L.len)).getD 4611686018427387904)]) h')) :
    W E1 (.call (.fn 12 [] []) [.agg [.int .i64 hz, vc, vl], .int .i64 (i : Int), .int .i64 t]) tm h Q := by
  have hil := (List.getElem?_eq_some_iff.1 hi).1
  have hnal := (List.getElem?_eq_some_iff.1 hw).1
  have okL := ok.each L (List.mem_of_getElem? hi)
  have gw := ok.good w (List.mem_of_getElem? hw)
  have hzz : 0 ≤ hz ∧ hz ≤ 1099511627776 := ok.hz
  have hlen1 := okL.low
  have hlen2 := okL.high
  have htt : 0 ≤ t ∧ t ≤ 1099511627776 := ht
  refine W.fn (s := fnOf Try.f12) rfl rfl rfl rfl ?_
  repeat (first | (with_reducible first | refine W.seq ?_ | refine W.block ?_ | refine W.region ?_ | refine W.draws ?_ | refine W.skip ?_ | refine W.exit ?_ | refine W.ret ?_ | refine SeqQ.normal ?_ | refine SeqQ.exit ?_ | refine SeqQ.ret ?_ | refine BlockQ.exit ?_ | refine BlockQ.normal ?_ | refine BlockQ.ret ?_ | refine BlockQ.other rfl ?_ | refine LoopQ.exit ?_ | refine CallQ.val ?_ | refine CutQ.normal ?_ | refine LoopQ.ret ?_) | refine W.offn rfl rfl ?_ | refine W.opn rfl op_lss rfl ?_ | refine W.opn rfl op_leq rfl ?_ | refine W.opn rfl op_eql rfl ?_ | refine W.opn rfl op_neq rfl ?_ | refine W.opn rfl (op_sub (by omega) (by omega)) rfl ?_ | refine W.opn rfl (op_add (by omega) (by omega)) rfl ?_ | refine W.opn (v := .int _ _) rfl rfl rfl ?_ | refine W.opn (v := .ptr _) rfl rfl rfl ?_ | refine W.opn (v := .bool _) rfl rfl rfl ?_ | refine W.opn (v := .slice _ _ _ _) rfl rfl rfl ?_ | refine W.opn (v := .agg _) rfl rfl rfl ?_ | refine W.opn (v := .tup _) rfl rfl rfl ?_ | refine W.opn rfl rfl rfl ?_ | refine W.offn rfl rfl ?_ | refine W.nil ?_)
  generalize hH : h.new (.cells [.int .i64 hz, vc, vl] false) = H
  have gb : H.get h.next = some (.cells [.int .i64 hz, vc, vl] false) := by rw [← hH]; exact new_same _ _
  have X : Ext h H := by rw [← hH]; exact Ext.new _ _
  have hb : h.next < H.next := by rw [← hH]; exact Nat.lt_succ_self _
  clear hH
  refine W.anyTm (fun tm => tm.look 1 = .int .i64 (i : Int) ∧ tm.look 2 = .int .i64 t ∧ tm.look 3 = .ptr (some (h.next, 0)) ∧ tm.look 6 = .int .i64 0 ∧ tm.look 7 = .int .i64 0) ⟨rfl, rfl, rfl, rfl, rfl⟩ ?_
  rintro tm ⟨w1, w2, w3, w6, w7⟩
  obtain ⟨T, rfl⟩ : ∃ T : Tm, tm = (((((T.set 1 (some (.int .i64 (i : Int)))).set 2 (some (.int .i64 t))).set 3 (some (.ptr (some (h.next, 0))))).set 6 (some (.int .i64 0))).set 7 (some (.int .i64 0))) := ⟨tm, (show tm = (((((tm.set 1 (some (tm.look 1))).set 2 (some (tm.look 2))).set 3 (some (tm.look 3))).set 6 (some (tm.look 6))).set 7 (some (tm.look 7))) by rfl).trans (by rw [w1, w2, w3, w6, w7])⟩
  clear w1 w2 w3 w6 w7
  refine W.ld rfl rfl rfl gb rfl rfl ?_
  refine W.call rfl rfl rfl (check_w (sc.ext X) (sl.ext X) hm hn hmc hnc fun H1 e X1 he => ?_)
  have e0 := he.2 ok
  subst e0
  have Y1 := X.trans X1
  have gb1 := (X1.old _ hb).trans gb
  have hb1 : h.next < H1.next := Nat.lt_of_lt_of_le hb X1.next
  refine W.anyTm (fun tm => tm.look 1 = .int .i64 (i : Int) ∧ tm.look 2 = .int .i64 t ∧ tm.look 3 = .ptr (some (h.next, 0)) ∧ tm.look 6 = .int .i64 0 ∧ tm.look 7 = .int .i64 0 ∧ tm.look 15 = .int .i64 0) ⟨rfl, rfl, rfl, rfl, rfl, rfl⟩ ?_
  rintro tm ⟨w1, w2, w3, w6, w7, w15⟩
  obtain ⟨T, rfl⟩ : ∃ T : Tm, tm = ((((((T.set 1 (some (.int .i64 (i : Int)))).set 2 (some (.int .i64 t))).set 3 (some (.ptr (some (h.next, 0))))).set 6 (some (.int .i64 0))).set 7 (some (.int .i64 0))).set 15 (some (.int .i64 0))) := ⟨tm, (show tm = ((((((tm.set 1 (some (tm.look 1))).set 2 (some (tm.look 2))).set 3 (some (tm.look 3))).set 6 (some (tm.look 6))).set 7 (some (tm.look 7))).set 15 (some (tm.look 15))) by rfl).trans (by rw [w1, w2, w3, w6, w7, w15])⟩
  clear w1 w2 w3 w6 w7 w15
  repeat (first | (with_reducible first | refine W.seq ?_ | refine W.block ?_ | refine W.region ?_ | refine W.draws ?_ | refine W.skip ?_ | refine W.exit ?_ | refine W.ret ?_ | refine SeqQ.normal ?_ | refine SeqQ.exit ?_ | refine SeqQ.ret ?_ | refine BlockQ.exit ?_ | refine BlockQ.normal ?_ | refine BlockQ.ret ?_ | refine BlockQ.other rfl ?_ | refine LoopQ.exit ?_ | refine CallQ.val ?_ | refine CutQ.normal ?_ | refine LoopQ.ret ?_) | refine W.offn rfl rfl ?_ | refine W.opn rfl op_lss rfl ?_ | refine W.opn rfl op_leq rfl ?_ | refine W.opn rfl op_eql rfl ?_ | refine W.opn rfl op_neq rfl ?_ | refine W.opn rfl (op_sub (by omega) (by omega)) rfl ?_ | refine W.opn rfl (op_add (by omega) (by omega)) rfl ?_ | refine W.opn (v := .int _ _) rfl rfl rfl ?_ | refine W.opn (v := .ptr _) rfl rfl rfl ?_ | refine W.opn (v := .bool _) rfl rfl rfl ?_ | refine W.opn (v := .slice _ _ _ _) rfl rfl rfl ?_ | refine W.opn (v := .agg _) rfl rfl rfl ?_ | refine W.opn (v := .tup _) rfl rfl rfl ?_ | refine W.opn rfl rfl rfl ?_ | refine W.offn rfl rfl ?_ | refine W.nil ?_)
  rw [decide_eq_false (by omega : ¬ (i : Int) < 0)]
  repeat (first | (with_reducible first | refine W.seq ?_ | refine W.block ?_ | refine W.region ?_ | refine W.draws ?_ | refine W.skip ?_ | refine W.exit ?_ | refine W.ret ?_ | refine SeqQ.normal ?_ | refine SeqQ.exit ?_ | refine SeqQ.ret ?_ | refine BlockQ.exit ?_ | refine BlockQ.normal ?_ | refine BlockQ.ret ?_ | refine BlockQ.other rfl ?_ | refine LoopQ.exit ?_ | refine CallQ.val ?_ | refine CutQ.normal ?_ | refine LoopQ.ret ?_) | refine W.offn rfl rfl ?_ | refine W.opn rfl op_lss rfl ?_ | refine W.opn rfl op_leq rfl ?_ | refine W.opn rfl op_eql rfl ?_ | refine W.opn rfl op_neq rfl ?_ | refine W.opn rfl (op_sub (by omega) (by omega)) rfl ?_ | refine W.opn rfl (op_add (by omega) (by omega)) rfl ?_ | refine W.opn (v := .int _ _) rfl rfl rfl ?_ | refine W.opn (v := .ptr _) rfl rfl rfl ?_ | refine W.opn (v := .bool _) rfl rfl rfl ?_ | refine W.opn (v := .slice _ _ _ _) rfl rfl rfl ?_ | refine W.opn (v := .agg _) rfl rfl rfl ?_ | refine W.opn (v := .tup _) rfl rfl rfl ?_ | refine W.opn rfl rfl rfl ?_ | refine W.offn rfl rfl ?_ | refine W.nil ?_)
  refine W.ld rfl rfl rfl gb1 rfl rfl ?_
  refine W.ln sl.lenOf rfl rfl rfl rfl rfl rfl rfl rfl ?_
  have hc : (Int.ofNat l.length) = (l.length : Int) := rfl
  repeat (first | (with_reducible first | refine W.seq ?_ | refine W.block ?_ | refine W.region ?_ | refine W.draws ?_ | refine W.skip ?_ | refine W.exit ?_ | refine W.ret ?_ | refine SeqQ.normal ?_ | refine SeqQ.exit ?_ | refine SeqQ.ret ?_ | refine BlockQ.exit ?_ | refine BlockQ.normal ?_ | refine BlockQ.ret ?_ | refine BlockQ.other rfl ?_ | refine LoopQ.exit ?_ | refine CallQ.val ?_ | refine CutQ.normal ?_ | refine LoopQ.ret ?_) | refine W.offn rfl rfl ?_ | refine W.opn rfl op_lss rfl ?_ | refine W.opn rfl op_leq rfl ?_ | refine W.opn rfl op_eql rfl ?_ | refine W.opn rfl op_neq rfl ?_ | refine W.opn rfl (op_sub (by omega) (by omega)) rfl ?_ | refine W.opn rfl (op_add (by omega) (by omega)) rfl ?_ | refine W.opn (v := .int _ _) rfl rfl rfl ?_ | refine W.opn (v := .ptr _) rfl rfl rfl ?_ | refine W.opn (v := .bool _) rfl rfl rfl ?_ | refine W.opn (v := .slice _ _ _ _) rfl rfl rfl ?_ | refine W.opn (v := .agg _) rfl rfl rfl ?_ | refine W.opn (v := .tup _) rfl rfl rfl ?_ | refine W.opn rfl rfl rfl ?_ | refine W.offn rfl rfl ?_ | refine W.nil ?_)
  rw [decide_eq_false (by omega : ¬ Int.ofNat l.length ≤ (i : Int))]
  repeat (first | (with_reducible first | refine W.seq ?_ | refine W.block ?_ | refine W.region ?_ | refine W.draws ?_ | refine W.skip ?_ | refine W.exit ?_ | refine W.ret ?_ | refine SeqQ.normal ?_ | refine SeqQ.exit ?_ | refine SeqQ.ret ?_ | refine BlockQ.exit ?_ | refine BlockQ.normal ?_ | refine BlockQ.ret ?_ | refine BlockQ.other rfl ?_ | refine LoopQ.exit ?_ | refine CallQ.val ?_ | refine CutQ.normal ?_ | refine LoopQ.ret ?_) | refine W.offn rfl rfl ?_ | refine W.opn rfl op_lss rfl ?_ | refine W.opn rfl op_leq rfl ?_ | refine W.opn rfl op_eql rfl ?_ | refine W.opn rfl op_neq rfl ?_ | refine W.opn rfl (op_sub (by omega) (by omega)) rfl ?_ | refine W.opn rfl (op_add (by omega) (by omega)) rfl ?_ | refine W.opn (v := .int _ _) rfl rfl rfl ?_ | refine W.opn (v := .ptr _) rfl rfl rfl ?_ | refine W.opn (v := .bool _) rfl rfl rfl ?_ | refine W.opn (v := .slice _ _ _ _) rfl rfl rfl ?_ | refine W.opn (v := .agg _) rfl rfl rfl ?_ | refine W.opn (v := .tup _) rfl rfl rfl ?_ | refine W.opn rfl rfl rfl ?_ | refine W.offn rfl rfl ?_ | refine W.nil ?_)
  refine W.call rfl rfl rfl (tick_w t fun e he => ?_)
  have e0 := he.2 ht
  subst e0
  repeat (first | (with_reducible first | refine W.seq ?_ | refine W.block ?_ | refine W.region ?_ | refine W.draws ?_ | refine W.skip ?_ | refine W.exit ?_ | refine W.ret ?_ | refine SeqQ.normal ?_ | refine SeqQ.exit ?_ | refine SeqQ.ret ?_ | refine BlockQ.exit ?_ | refine BlockQ.normal ?_ | refine BlockQ.ret ?_ | refine BlockQ.other rfl ?_ | refine LoopQ.exit ?_ | refine CallQ.val ?_ | refine CutQ.normal ?_ | refine LoopQ.ret ?_) | refine W.offn rfl rfl ?_ | refine W.opn rfl op_lss rfl ?_ | refine W.opn rfl op_leq rfl ?_ | refine W.opn rfl op_eql rfl ?_ | refine W.opn rfl op_neq rfl ?_ | refine W.opn rfl (op_sub (by omega) (by omega)) rfl ?_ | refine W.opn rfl (op_add (by omega) (by omega)) rfl ?_ | refine W.opn (v := .int _ _) rfl rfl rfl ?_ | refine W.opn (v := .ptr _) rfl rfl rfl ?_ | refine W.opn (v := .bool _) rfl rfl rfl ?_ | refine W.opn (v := .slice _ _ _ _) rfl rfl rfl ?_ | refine W.opn (v := .agg _) rfl rfl rfl ?_ | refine W.opn (v := .tup _) rfl rfl rfl ?_ | refine W.opn rfl rfl rfl ?_ | refine W.offn rfl rfl ?_ | refine W.nil ?_)
  refine W.cond (x := false) rfl (fun hc => by cases hc) (fun _ => ?_)
  refine W.anyTm (fun tm => tm.look 1 = .int .i64 (i : Int) ∧ tm.look 2 = .int .i64 t ∧ tm.look 3 = .ptr (some (h.next, 0)) ∧ tm.look 6 = .int .i64 0 ∧ tm.look 7 = .int .i64 0) ⟨rfl, rfl, rfl, rfl, rfl⟩ ?_
  rintro tm ⟨w1, w2, w3, w6, w7⟩
  obtain ⟨T, rfl⟩ : ∃ T : Tm, tm = (((((T.set 1 (some (.int .i64 (i : Int)))).set 2 (some (.int .i64 t))).set 3 (some (.ptr (some (h.next, 0))))).set 6 (some (.int .i64 0))).set 7 (some (.int .i64 0))) := ⟨tm, (show tm = (((((tm.set 1 (some (tm.look 1))).set 2 (some (tm.look 2))).set 3 (some (tm.look 3))).set 6 (some (tm.look 6))).set 7 (some (tm.look 7))) by rfl).trans (by rw [w1, w2, w3, w6, w7])⟩
  clear w1 w2 w3 w6 w7
  repeat (first | (with_reducible first | refine W.seq ?_ | refine W.block ?_ | refine W.region ?_ | refine W.draws ?_ | refine W.skip ?_ | refine W.exit ?_ | refine W.ret ?_ | refine SeqQ.normal ?_ | refine SeqQ.exit ?_ | refine SeqQ.ret ?_ | refine BlockQ.exit ?_ | refine BlockQ.normal ?_ | refine BlockQ.ret ?_ | refine BlockQ.other rfl ?_ | refine LoopQ.exit ?_ | refine CallQ.val ?_ | refine CutQ.normal ?_ | refine LoopQ.ret ?_) | refine W.offn rfl rfl ?_ | refine W.opn rfl op_lss rfl ?_ | refine W.opn rfl op_leq rfl ?_ | refine W.opn rfl op_eql rfl ?_ | refine W.opn rfl op_neq rfl ?_ | refine W.opn rfl (op_sub (by omega) (by omega)) rfl ?_ | refine W.opn rfl (op_add (by omega) (by omega)) rfl ?_ | refine W.opn (v := .int _ _) rfl rfl rfl ?_ | refine W.opn (v := .ptr _) rfl rfl rfl ?_ | refine W.opn (v := .bool _) rfl rfl rfl ?_ | refine W.opn (v := .slice _ _ _ _) rfl rfl rfl ?_ | refine W.opn (v := .agg _) rfl rfl rfl ?_ | refine W.opn (v := .tup _) rfl rfl rfl ?_ | refine W.opn rfl rfl rfl ?_ | refine W.offn rfl rfl ?_ | refine W.nil ?_)
  have ds := DS.start (Ext.refl H1)
  obtain ⟨il, ol, cc, xl, csl, rol, e, L', evl, hil1, hgl, hL', hcutl, hrL⟩ := (sl.ext Y1).at hil
  rw [hi] at hL'
  cases hL'
  obtain ⟨ic, oc, ccc, xc, csc, roc, u, w', evc, hic1, hgc, hw', hcutc, hsw⟩ := (sc.ext Y1).at hnal
  rw [hw] at hw'
  cases hw'
  obtain ⟨vo, vk, rfl, so, sk⟩ := hrL
  rw [evl, evc] at gb1
  repeat (first | refine W.doffn rfl rfl ?_ | refine W.dopn rfl rfl op_lss rfl ?_ | refine W.dopn rfl rfl op_leq rfl ?_ | refine W.dopn rfl rfl op_eql rfl ?_ | refine W.dopn rfl rfl op_neq rfl ?_ | refine W.dopn rfl rfl (op_sub (by omega) (by omega)) rfl ?_ | refine W.dopn rfl rfl (op_add (by omega) (by omega)) rfl ?_ | refine W.dopn (v := .int _ _) rfl rfl rfl rfl ?_ | refine W.dopn (v := .ptr _) rfl rfl rfl rfl ?_ | refine W.dopn (v := .bool _) rfl rfl rfl rfl ?_ | refine W.dopn (v := .slice _ _ _ _) rfl rfl rfl rfl ?_ | refine W.dopn (v := .agg _) rfl rfl rfl rfl ?_ | refine W.dopn (v := .tup _) rfl rfl rfl rfl ?_ | refine W.dopn rfl rfl rfl rfl ?_ | refine W.doffn rfl rfl ?_ | refine W.dnil ?_)
  refine W.dldX ds rfl rfl rfl gb1 hb1 rfl rfl fun _ _ ds => ?_
  repeat (first | refine W.doffn rfl rfl ?_ | refine W.dopn rfl rfl op_lss rfl ?_ | refine W.dopn rfl rfl op_leq rfl ?_ | refine W.dopn rfl rfl op_eql rfl ?_ | refine W.dopn rfl rfl op_neq rfl ?_ | refine W.dopn rfl rfl (op_sub (by omega) (by omega)) rfl ?_ | refine W.dopn rfl rfl (op_add (by omega) (by omega)) rfl ?_ | refine W.dopn (v := .int _ _) rfl rfl rfl rfl ?_ | refine W.dopn (v := .ptr _) rfl rfl rfl rfl ?_ | refine W.dopn (v := .bool _) rfl rfl rfl rfl ?_ | refine W.dopn (v := .slice _ _ _ _) rfl rfl rfl rfl ?_ | refine W.dopn (v := .agg _) rfl rfl rfl rfl ?_ | refine W.dopn (v := .tup _) rfl rfl rfl rfl ?_ | refine W.dopn rfl rfl rfl rfl ?_ | refine W.doffn rfl rfl ?_ | refine W.dnil ?_)
  refine W.dix rfl rfl rfl rfl rfl rfl rfl (place_of (j := i) rfl hil) ?_
  refine W.dldX ds rfl rfl rfl hgl hil1 rfl (v := .agg _) (by show (cut csl (ol + i * 7) 7).map CV.agg = _; rw [hcutl]; rfl) fun _ _ ds => ?_
  repeat (first | refine W.doffn rfl rfl ?_ | refine W.dopn rfl rfl op_lss rfl ?_ | refine W.dopn rfl rfl op_leq rfl ?_ | refine W.dopn rfl rfl op_eql rfl ?_ | refine W.dopn rfl rfl op_neq rfl ?_ | refine W.dopn rfl rfl (op_sub (by omega) (by omega)) rfl ?_ | refine W.dopn rfl rfl (op_add (by omega) (by omega)) rfl ?_ | refine W.dopn (v := .int _ _) rfl rfl rfl rfl ?_ | refine W.dopn (v := .ptr _) rfl rfl rfl rfl ?_ | refine W.dopn (v := .bool _) rfl rfl rfl rfl ?_ | refine W.dopn (v := .slice _ _ _ _) rfl rfl rfl rfl ?_ | refine W.dopn (v := .agg _) rfl rfl rfl rfl ?_ | refine W.dopn (v := .tup _) rfl rfl rfl rfl ?_ | refine W.dopn rfl rfl rfl rfl ?_ | refine W.doffn rfl rfl ?_ | refine W.dnil ?_)
  refine W.dldX ds rfl rfl rfl gb1 hb1 rfl rfl fun _ _ ds => ?_
  repeat (first | refine W.doffn rfl rfl ?_ | refine W.dopn rfl rfl op_lss rfl ?_ | refine W.dopn rfl rfl op_leq rfl ?_ | refine W.dopn rfl rfl op_eql rfl ?_ | refine W.dopn rfl rfl op_neq rfl ?_ | refine W.dopn rfl rfl (op_sub (by omega) (by omega)) rfl ?_ | refine W.dopn rfl rfl (op_add (by omega) (by omega)) rfl ?_ | refine W.dopn (v := .int _ _) rfl rfl rfl rfl ?_ | refine W.dopn (v := .ptr _) rfl rfl rfl rfl ?_ | refine W.dopn (v := .bool _) rfl rfl rfl rfl ?_ | refine W.dopn (v := .slice _ _ _ _) rfl rfl rfl rfl ?_ | refine W.dopn (v := .agg _) rfl rfl rfl rfl ?_ | refine W.dopn (v := .tup _) rfl rfl rfl rfl ?_ | refine W.dopn rfl rfl rfl rfl ?_ | refine W.doffn rfl rfl ?_ | refine W.dnil ?_)
  refine W.dldX ds rfl rfl rfl gb1 hb1 rfl rfl fun _ _ ds => ?_
  repeat (first | refine W.doffn rfl rfl ?_ | refine W.dopn rfl rfl op_lss rfl ?_ | refine W.dopn rfl rfl op_leq rfl ?_ | refine W.dopn rfl rfl op_eql rfl ?_ | refine W.dopn rfl rfl op_neq rfl ?_ | refine W.dopn rfl rfl (op_sub (by omega) (by omega)) rfl ?_ | refine W.dopn rfl rfl (op_add (by omega) (by omega)) rfl ?_ | refine W.dopn (v := .int _ _) rfl rfl rfl rfl ?_ | refine W.dopn (v := .ptr _) rfl rfl rfl rfl ?_ | refine W.dopn (v := .bool _) rfl rfl rfl rfl ?_ | refine W.dopn (v := .slice _ _ _ _) rfl rfl rfl rfl ?_ | refine W.dopn (v := .agg _) rfl rfl rfl rfl ?_ | refine W.dopn (v := .tup _) rfl rfl rfl rfl ?_ | refine W.dopn rfl rfl rfl rfl ?_ | refine W.doffn rfl rfl ?_ | refine W.dnil ?_)
  refine W.dix rfl rfl rfl rfl rfl rfl rfl (place_of (j := i) rfl hil) ?_
  repeat (first | refine W.doffn rfl rfl ?_ | refine W.dopn rfl rfl op_lss rfl ?_ | refine W.dopn rfl rfl op_leq rfl ?_ | refine W.dopn rfl rfl op_eql rfl ?_ | refine W.dopn rfl rfl op_neq rfl ?_ | refine W.dopn rfl rfl (op_sub (by omega) (by omega)) rfl ?_ | refine W.dopn rfl rfl (op_add (by omega) (by omega)) rfl ?_ | refine W.dopn (v := .int _ _) rfl rfl rfl rfl ?_ | refine W.dopn (v := .ptr _) rfl rfl rfl rfl ?_ | refine W.dopn (v := .bool _) rfl rfl rfl rfl ?_ | refine W.dopn (v := .slice _ _ _ _) rfl rfl rfl rfl ?_ | refine W.dopn (v := .agg _) rfl rfl rfl rfl ?_ | refine W.dopn (v := .tup _) rfl rfl rfl rfl ?_ | refine W.dopn rfl rfl rfl rfl ?_ | refine W.doffn rfl rfl ?_ | refine W.dnil ?_)
  refine W.dldX ds rfl rfl rfl hgl hil1 rfl (v := .int .i64 L.a) (cut_nth hcutl rfl) fun _ _ ds => ?_
  repeat (first | refine W.doffn rfl rfl ?_ | refine W.dopn rfl rfl op_lss rfl ?_ | refine W.dopn rfl rfl op_leq rfl ?_ | refine W.dopn rfl rfl op_eql rfl ?_ | refine W.dopn rfl rfl op_neq rfl ?_ | refine W.dopn rfl rfl (op_sub (by omega) (by omega)) rfl ?_ | refine W.dopn rfl rfl (op_add (by omega) (by omega)) rfl ?_ | refine W.dopn (v := .int _ _) rfl rfl rfl rfl ?_ | refine W.dopn (v := .ptr _) rfl rfl rfl rfl ?_ | refine W.dopn (v := .bool _) rfl rfl rfl rfl ?_ | refine W.dopn (v := .slice _ _ _ _) rfl rfl rfl rfl ?_ | refine W.dopn (v := .agg _) rfl rfl rfl rfl ?_ | refine W.dopn (v := .tup _) rfl rfl rfl rfl ?_ | refine W.dopn rfl rfl rfl rfl ?_ | refine W.doffn rfl rfl ?_ | refine W.dnil ?_)
  refine W.dix rfl rfl rfl rfl rfl rfl rfl (place_of (j := na) hna hnal) ?_
  refine W.dldX ds rfl rfl rfl hgc hic1 rfl (v := u) hcutc fun _ Hd ds => ?_
  repeat (first | refine W.doffn rfl rfl ?_ | refine W.dopn rfl rfl op_lss rfl ?_ | refine W.dopn rfl rfl op_leq rfl ?_ | refine W.dopn rfl rfl op_eql rfl ?_ | refine W.dopn rfl rfl op_neq rfl ?_ | refine W.dopn rfl rfl (op_sub (by omega) (by omega)) rfl ?_ | refine W.dopn rfl rfl (op_add (by omega) (by omega)) rfl ?_ | refine W.dopn (v := .int _ _) rfl rfl rfl rfl ?_ | refine W.dopn (v := .ptr _) rfl rfl rfl rfl ?_ | refine W.dopn (v := .bool _) rfl rfl rfl rfl ?_ | refine W.dopn (v := .slice _ _ _ _) rfl rfl rfl rfl ?_ | refine W.dopn (v := .agg _) rfl rfl rfl rfl ?_ | refine W.dopn (v := .tup _) rfl rfl rfl rfl ?_ | refine W.dopn rfl rfl rfl rfl ?_ | refine W.doffn rfl rfl ?_ | refine W.dnil ?_)
  have hsg : SlG H1 2 u (w.map winC) := hsw
  refine W.dopn (v := .agg [.int .i64 L.a, .int .i64 L.b, .int .i64 L.len, .bool L.door, .int .i64 L.of, vo, vk, u]) rfl rfl (by rcases hsg with ⟨rfl, _⟩ | ⟨rfl, _⟩ | ⟨_, _, _, _, _, _, rfl, _⟩ <;> rfl) rfl ?_
  repeat (first | refine W.doffn rfl rfl ?_ | refine W.dopn rfl rfl op_lss rfl ?_ | refine W.dopn rfl rfl op_leq rfl ?_ | refine W.dopn rfl rfl op_eql rfl ?_ | refine W.dopn rfl rfl op_neq rfl ?_ | refine W.dopn rfl rfl (op_sub (by omega) (by omega)) rfl ?_ | refine W.dopn rfl rfl (op_add (by omega) (by omega)) rfl ?_ | refine W.dopn (v := .int _ _) rfl rfl rfl rfl ?_ | refine W.dopn (v := .ptr _) rfl rfl rfl rfl ?_ | refine W.dopn (v := .bool _) rfl rfl rfl rfl ?_ | refine W.dopn (v := .slice _ _ _ _) rfl rfl rfl rfl ?_ | refine W.dopn (v := .agg _) rfl rfl rfl rfl ?_ | refine W.dopn (v := .tup _) rfl rfl rfl rfl ?_ | refine W.dopn rfl rfl rfl rfl ?_ | refine W.doffn rfl rfl ?_ | refine W.dnil ?_)
  refine W.dal ds rfl rfl rfl fun rc2 H2 hri X2 nx2 g2 => ?_
  repeat (first | refine W.doffn rfl rfl ?_ | refine W.dopn rfl rfl op_lss rfl ?_ | refine W.dopn rfl rfl op_leq rfl ?_ | refine W.dopn rfl rfl op_eql rfl ?_ | refine W.dopn rfl rfl op_neq rfl ?_ | refine W.dopn rfl rfl (op_sub (by omega) (by omega)) rfl ?_ | refine W.dopn rfl rfl (op_add (by omega) (by omega)) rfl ?_ | refine W.dopn (v := .int _ _) rfl rfl rfl rfl ?_ | refine W.dopn (v := .ptr _) rfl rfl rfl rfl ?_ | refine W.dopn (v := .bool _) rfl rfl rfl rfl ?_ | refine W.dopn (v := .slice _ _ _ _) rfl rfl rfl rfl ?_ | refine W.dopn (v := .agg _) rfl rfl rfl rfl ?_ | refine W.dopn (v := .tup _) rfl rfl rfl rfl ?_ | refine W.dopn rfl rfl rfl rfl ?_ | refine W.doffn rfl rfl ?_ | refine W.dnil ?_)
  refine W.dst hri rfl rfl rfl rfl rfl rfl rfl g2 rfl fun rc3 H3 hri3 s3 => ?_
  have ge : H3.get Hd.next = some (.cells [.int .i64 L.a, .int .i64 L.b, .int .i64 L.len, .bool L.door, .int .i64 L.of, vo, vk, u] false) := (s3.get _).trans (put_same _ _ _)
  have hdn := ds.x.next
  have XE : Ext H1 H3 := by
    refine ⟨?_, fun k hk => ?_, fun f k hk => ?_⟩
    · rw [s3.next]
      show H1.next ≤ H2.next
      omega
    · rw [s3.get, Heap.get_put, if_neg (by omega)]
      exact X2.old k hk
    · rw [s3.next] at hk
      have hk : H2.next ≤ k := hk
      rw [s3.get, Heap.get_put, if_neg (by omega)]
      exact X2.fr f k hk
  have he : Hd.next < H3.next := by
    rw [s3.next]
    show Hd.next < H2.next
    omega
  have hE : EdgeR H3 [.int .i64 L.a, .int .i64 L.b, .int .i64 L.len, .bool L.door, .int .i64 L.of, vo, vk, u] L w := ⟨vo, vk, u, rfl, so.ext XE, sk.ext XE, hsw.ext XE⟩
  have gb3 := (XE.old _ hb1).trans gb1
  have Y3 := Y1.trans XE
  have hmL := hm L (List.mem_of_getElem? hi)
  have hmw := hmc w (List.mem_of_getElem? hw)
  clear ds hri hri3 s3 g2 nx2 X2 hdn
  repeat (first | refine W.doffn rfl rfl ?_ | refine W.dopn rfl rfl op_lss rfl ?_ | refine W.dopn rfl rfl op_leq rfl ?_ | refine W.dopn rfl rfl op_eql rfl ?_ | refine W.dopn rfl rfl op_neq rfl ?_ | refine W.dopn rfl rfl (op_sub (by omega) (by omega)) rfl ?_ | refine W.dopn rfl rfl (op_add (by omega) (by omega)) rfl ?_ | refine W.dopn (v := .int _ _) rfl rfl rfl rfl ?_ | refine W.dopn (v := .ptr _) rfl rfl rfl rfl ?_ | refine W.dopn (v := .bool _) rfl rfl rfl rfl ?_ | refine W.dopn (v := .slice _ _ _ _) rfl rfl rfl rfl ?_ | refine W.dopn (v := .agg _) rfl rfl rfl rfl ?_ | refine W.dopn (v := .tup _) rfl rfl rfl rfl ?_ | refine W.dopn rfl rfl rfl rfl ?_ | refine W.doffn rfl rfl ?_ | refine W.dnil ?_)
  refine SeqQ.normal ?_
  refine W.anyTm (fun tm => tm.look 2 = .int .i64 t ∧ tm.look 3 = .ptr (some (h.next, 0)) ∧ tm.look 6 = .int .i64 0 ∧ tm.look 7 = .int .i64 0 ∧ tm.look 8 = .ptr (some (Hd.next, 0))) ⟨rfl, rfl, rfl, rfl, rfl⟩ ?_
  rintro tm ⟨w2, w3, w6, w7, w8⟩
  obtain ⟨T, rfl⟩ : ∃ T : Tm, tm = (((((T.set 2 (some (.int .i64 t))).set 3 (some (.ptr (some (h.next, 0))))).set 6 (some (.int .i64 0))).set 7 (some (.int .i64 0))).set 8 (some (.ptr (some (Hd.next, 0))))) := ⟨tm, (show tm = (((((tm.set 2 (some (tm.look 2))).set 3 (some (tm.look 3))).set 6 (some (tm.look 6))).set 7 (some (tm.look 7))).set 8 (some (tm.look 8))) by rfl).trans (by rw [w2, w3, w6, w7, w8])⟩
  clear w2 w3 w6 w7 w8
  repeat (first | (with_reducible first | refine W.seq ?_ | refine W.block ?_ | refine W.region ?_ | refine W.draws ?_ | refine W.skip ?_ | refine W.exit ?_ | refine W.ret ?_ | refine SeqQ.normal ?_ | refine SeqQ.exit ?_ | refine SeqQ.ret ?_ | refine BlockQ.exit ?_ | refine BlockQ.normal ?_ | refine BlockQ.ret ?_ | refine BlockQ.other rfl ?_ | refine LoopQ.exit ?_ | refine CallQ.val ?_ | refine CutQ.normal ?_ | refine LoopQ.ret ?_) | refine W.offn rfl rfl ?_ | refine W.opn rfl op_lss rfl ?_ | refine W.opn rfl op_leq rfl ?_ | refine W.opn rfl op_eql rfl ?_ | refine W.opn rfl op_neq rfl ?_ | refine W.opn rfl (op_sub (by omega) (by omega)) rfl ?_ | refine W.opn rfl (op_add (by omega) (by omega)) rfl ?_ | refine W.opn (v := .int _ _) rfl rfl rfl ?_ | refine W.opn (v := .ptr _) rfl rfl rfl ?_ | refine W.opn (v := .bool _) rfl rfl rfl ?_ | refine W.opn (v := .slice _ _ _ _) rfl rfl rfl ?_ | refine W.opn (v := .agg _) rfl rfl rfl ?_ | refine W.opn (v := .tup _) rfl rfl rfl ?_ | refine W.opn rfl rfl rfl ?_ | refine W.offn rfl rfl ?_ | refine W.nil ?_)
  refine W.ld rfl rfl rfl gb3 rfl rfl ?_
  repeat (first | (with_reducible first | refine W.seq ?_ | refine W.block ?_ | refine W.region ?_ | refine W.draws ?_ | refine W.skip ?_ | refine W.exit ?_ | refine W.ret ?_ | refine SeqQ.normal ?_ | refine SeqQ.exit ?_ | refine SeqQ.ret ?_ | refine BlockQ.exit ?_ | refine BlockQ.normal ?_ | refine BlockQ.ret ?_ | refine BlockQ.other rfl ?_ | refine LoopQ.exit ?_ | refine CallQ.val ?_ | refine CutQ.normal ?_ | refine LoopQ.ret ?_) | refine W.offn rfl rfl ?_ | refine W.opn rfl op_lss rfl ?_ | refine W.opn rfl op_leq rfl ?_ | refine W.opn rfl op_eql rfl ?_ | refine W.opn rfl op_neq rfl ?_ | refine W.opn rfl (op_sub (by omega) (by omega)) rfl ?_ | refine W.opn rfl (op_add (by omega) (by omega)) rfl ?_ | refine W.opn (v := .int _ _) rfl rfl rfl ?_ | refine W.opn (v := .ptr _) rfl rfl rfl ?_ | refine W.opn (v := .bool _) rfl rfl rfl ?_ | refine W.opn (v := .slice _ _ _ _) rfl rfl rfl ?_ | refine W.opn (v := .agg _) rfl rfl rfl ?_ | refine W.opn (v := .tup _) rfl rfl rfl ?_ | refine W.opn rfl rfl rfl ?_ | refine W.offn rfl rfl ?_ | refine W.nil ?_)
  refine W.ld rfl rfl rfl ge rfl rfl ?_
  repeat (first | (with_reducible first | refine W.seq ?_ | refine W.block ?_ | refine W.region ?_ | refine W.draws ?_ | refine W.skip ?_ | refine W.exit ?_ | refine W.ret ?_ | refine SeqQ.normal ?_ | refine SeqQ.exit ?_ | refine SeqQ.ret ?_ | refine BlockQ.exit ?_ | refine BlockQ.normal ?_ | refine BlockQ.ret ?_ | refine BlockQ.other rfl ?_ | refine LoopQ.exit ?_ | refine CallQ.val ?_ | refine CutQ.normal ?_ | refine LoopQ.ret ?_) | refine W.offn rfl rfl ?_ | refine W.opn rfl op_lss rfl ?_ | refine W.opn rfl op_leq rfl ?_ | refine W.opn rfl op_eql rfl ?_ | refine W.opn rfl op_neq rfl ?_ | refine W.opn rfl (op_sub (by omega) (by omega)) rfl ?_ | refine W.opn rfl (op_add (by omega) (by omega)) rfl ?_ | refine W.opn (v := .int _ _) rfl rfl rfl ?_ | refine W.opn (v := .ptr _) rfl rfl rfl ?_ | refine W.opn (v := .bool _) rfl rfl rfl ?_ | refine W.opn (v := .slice _ _ _ _) rfl rfl rfl ?_ | refine W.opn (v := .agg _) rfl rfl rfl ?_ | refine W.opn (v := .tup _) rfl rfl rfl ?_ | refine W.opn rfl rfl rfl ?_ | refine W.offn rfl rfl ?_ | refine W.nil ?_)
  refine W.loop (σ := Int × Bool) (fun st tm h' => tm.look 2 = .int .i64 st.1 ∧ tm.look 8 = .ptr (some (Hd.next, 0)) ∧ tm.look 9 = .int .i64 (hz - L.len) ∧ tm.look 10 = .bool st.2 ∧ (t ≤ st.1 ∧ (∀ z, t ≤ z → z ≤ hz - L.len → (kOf L w).May z → st.1 ≤ z) ∧ (st.2 = false → ∀ j, j < 3 → mv L w j st.1 = st.1)) ∧ Ext H3 h') (fun st => 2 * (hz - L.len + 1 - st.1).toNat + (if st.2 = true then 1 else 0)) ?_ (s := (t, true))
    ⟨rfl, rfl, rfl, rfl, ⟨Int.le_refl _, fun z h1 _ _ => h1, fun h => by cases h⟩, Ext.refl _⟩
  rintro ⟨c, m⟩ tm h' ⟨w2, w8, w9, w10, ⟨c1, c2, c3⟩, Z⟩
  simp only at w2 w10 c1 c2 c3
  obtain ⟨T, rfl⟩ : ∃ T : Tm, tm = ((((T.set 2 (some (.int .i64 c))).set 8 (some (.ptr (some (Hd.next, 0))))).set 9 (some (.int .i64 (hz - L.len)))).set 10 (some (.bool m))) := ⟨tm, (show tm = ((((tm.set 2 (some (tm.look 2))).set 8 (some (tm.look 8))).set 9 (some (tm.look 9))).set 10 (some (tm.look 10))) by rfl).trans (by rw [w2, w8, w9, w10])⟩
  clear w2 w8 w9 w10
  repeat (first | (with_reducible first | refine W.seq ?_ | refine W.block ?_ | refine W.region ?_ | refine W.draws ?_ | refine W.skip ?_ | refine W.exit ?_ | refine W.ret ?_ | refine SeqQ.normal ?_ | refine SeqQ.exit ?_ | refine SeqQ.ret ?_ | refine BlockQ.exit ?_ | refine BlockQ.normal ?_ | refine BlockQ.ret ?_ | refine BlockQ.other rfl ?_ | refine LoopQ.exit ?_ | refine CallQ.val ?_ | refine CutQ.normal ?_ | refine LoopQ.ret ?_) | refine W.offn rfl rfl ?_ | refine W.opn rfl op_lss rfl ?_ | refine W.opn rfl op_leq rfl ?_ | refine W.opn rfl op_eql rfl ?_ | refine W.opn rfl op_neq rfl ?_ | refine W.opn rfl (op_sub (by omega) (by omega)) rfl ?_ | refine W.opn rfl (op_add (by omega) (by omega)) rfl ?_ | refine W.opn (v := .int _ _) rfl rfl rfl ?_ | refine W.opn (v := .ptr _) rfl rfl rfl ?_ | refine W.opn (v := .bool _) rfl rfl rfl ?_ | refine W.opn (v := .slice _ _ _ _) rfl rfl rfl ?_ | refine W.opn (v := .agg _) rfl rfl rfl ?_ | refine W.opn (v := .tup _) rfl rfl rfl ?_ | refine W.opn rfl rfl rfl ?_ | refine W.offn rfl rfl ?_ | refine W.nil ?_)
  cases m
  · refine W.cond (x := false) rfl (fun hc => by cases hc) (fun _ => ?_)
    repeat (first | (with_reducible first | refine W.seq ?_ | refine W.block ?_ | refine W.region ?_ | refine W.draws ?_ | refine W.skip ?_ | refine W.exit ?_ | refine W.ret ?_ | refine SeqQ.normal ?_ | refine SeqQ.exit ?_ | refine SeqQ.ret ?_ | refine BlockQ.exit ?_ | refine BlockQ.normal ?_ | refine BlockQ.ret ?_ | refine BlockQ.other rfl ?_ | refine LoopQ.exit ?_ | refine CallQ.val ?_ | refine CutQ.normal ?_ | refine LoopQ.ret ?_) | refine W.offn rfl rfl ?_ | refine W.opn rfl op_lss rfl ?_ | refine W.opn rfl op_leq rfl ?_ | refine W.opn rfl op_eql rfl ?_ | refine W.opn rfl op_neq rfl ?_ | refine W.opn rfl (op_sub (by omega) (by omega)) rfl ?_ | refine W.opn rfl (op_add (by omega) (by omega)) rfl ?_ | refine W.opn (v := .int _ _) rfl rfl rfl ?_ | refine W.opn (v := .ptr _) rfl rfl rfl ?_ | refine W.opn (v := .bool _) rfl rfl rfl ?_ | refine W.opn (v := .slice _ _ _ _) rfl rfl rfl ?_ | refine W.opn (v := .agg _) rfl rfl rfl ?_ | refine W.opn (v := .tup _) rfl rfl rfl ?_ | refine W.opn rfl rfl rfl ?_ | refine W.offn rfl rfl ?_ | refine W.nil ?_)
    by_cases d1 : hz - L.len < c
    · rw [decide_eq_true d1]
      refine W.cond (x := true) rfl (fun _ => ?_) (fun hc => by cases hc)
      repeat (first | (with_reducible first | refine W.seq ?_ | refine W.block ?_ | refine W.region ?_ | refine W.draws ?_ | refine W.skip ?_ | refine W.exit ?_ | refine W.ret ?_ | refine SeqQ.normal ?_ | refine SeqQ.exit ?_ | refine SeqQ.ret ?_ | refine BlockQ.exit ?_ | refine BlockQ.normal ?_ | refine BlockQ.ret ?_ | refine BlockQ.other rfl ?_ | refine LoopQ.exit ?_ | refine CallQ.val ?_ | refine CutQ.normal ?_ | refine LoopQ.ret ?_) | refine W.offn rfl rfl ?_ | refine W.opn rfl op_lss rfl ?_ | refine W.opn rfl op_leq rfl ?_ | refine W.opn rfl op_eql rfl ?_ | refine W.opn rfl op_neq rfl ?_ | refine W.opn rfl (op_sub (by omega) (by omega)) rfl ?_ | refine W.opn rfl (op_add (by omega) (by omega)) rfl ?_ | refine W.opn (v := .int _ _) rfl rfl rfl ?_ | refine W.opn (v := .ptr _) rfl rfl rfl ?_ | refine W.opn (v := .bool _) rfl rfl rfl ?_ | refine W.opn (v := .slice _ _ _ _) rfl rfl rfl ?_ | refine W.opn (v := .agg _) rfl rfl rfl ?_ | refine W.opn (v := .tup _) rfl rfl rfl ?_ | refine W.opn rfl rfl rfl ?_ | refine W.offn rfl rfl ?_ | refine W.nil ?_)
      exact q _ none (Y3.trans Z) (fun z h1 h2 hmz => by have := c2 z h1 h2 hmz; omega)
    rw [decide_eq_false d1]
    refine W.cond (x := false) rfl (fun hc => by cases hc) (fun _ => ?_)
    refine W.anyTm (fun tm => tm.look 2 = .int .i64 c ∧ tm.look 8 = .ptr (some (Hd.next, 0)) ∧ tm.look 9 = .int .i64 (hz - L.len)) ⟨rfl, rfl, rfl⟩ ?_
    rintro tm ⟨w2, w8, w9⟩
    obtain ⟨T, rfl⟩ : ∃ T : Tm, tm = (((T.set 2 (some (.int .i64 c))).set 8 (some (.ptr (some (Hd.next, 0))))).set 9 (some (.int .i64 (hz - L.len)))) := ⟨tm, (show tm = (((tm.set 2 (some (tm.look 2))).set 8 (some (tm.look 8))).set 9 (some (tm.look 9))) by rfl).trans (by rw [w2, w8, w9])⟩
    clear w2 w8 w9
    repeat (first | (with_reducible first | refine W.seq ?_ | refine W.block ?_ | refine W.region ?_ | refine W.draws ?_ | refine W.skip ?_ | refine W.exit ?_ | refine W.ret ?_ | refine SeqQ.normal ?_ | refine SeqQ.exit ?_ | refine SeqQ.ret ?_ | refine BlockQ.exit ?_ | refine BlockQ.normal ?_ | refine BlockQ.ret ?_ | refine BlockQ.other rfl ?_ | refine LoopQ.exit ?_ | refine CallQ.val ?_ | refine CutQ.normal ?_ | refine LoopQ.ret ?_) | refine W.offn rfl rfl ?_ | refine W.opn rfl op_lss rfl ?_ | refine W.opn rfl op_leq rfl ?_ | refine W.opn rfl op_eql rfl ?_ | refine W.opn rfl op_neq rfl ?_ | refine W.opn rfl (op_sub (by omega) (by omega)) rfl ?_ | refine W.opn rfl (op_add (by omega) (by omega)) rfl ?_ | refine W.opn (v := .int _ _) rfl rfl rfl ?_ | refine W.opn (v := .ptr _) rfl rfl rfl ?_ | refine W.opn (v := .bool _) rfl rfl rfl ?_ | refine W.opn (v := .slice _ _ _ _) rfl rfl rfl ?_ | refine W.opn (v := .agg _) rfl rfl rfl ?_ | refine W.opn (v := .tup _) rfl rfl rfl ?_ | refine W.opn rfl rfl rfl ?_ | refine W.offn rfl rfl ?_ | refine W.nil ?_)
    have ds := DS.start Z
    repeat (first | refine W.doffn rfl rfl ?_ | refine W.dopn rfl rfl op_lss rfl ?_ | refine W.dopn rfl rfl op_leq rfl ?_ | refine W.dopn rfl rfl op_eql rfl ?_ | refine W.dopn rfl rfl op_neq rfl ?_ | refine W.dopn rfl rfl (op_sub (by omega) (by omega)) rfl ?_ | refine W.dopn rfl rfl (op_add (by omega) (by omega)) rfl ?_ | refine W.dopn (v := .int _ _) rfl rfl rfl rfl ?_ | refine W.dopn (v := .ptr _) rfl rfl rfl rfl ?_ | refine W.dopn (v := .bool _) rfl rfl rfl rfl ?_ | refine W.dopn (v := .slice _ _ _ _) rfl rfl rfl rfl ?_ | refine W.dopn (v := .agg _) rfl rfl rfl rfl ?_ | refine W.dopn (v := .tup _) rfl rfl rfl rfl ?_ | refine W.dopn rfl rfl rfl rfl ?_ | refine W.doffn rfl rfl ?_ | refine W.dnil ?_)
    refine W.dldX ds rfl rfl rfl ge he rfl rfl fun _ _ ds => ?_
    repeat (first | refine W.doffn rfl rfl ?_ | refine W.dopn rfl rfl op_lss rfl ?_ | refine W.dopn rfl rfl op_leq rfl ?_ | refine W.dopn rfl rfl op_eql rfl ?_ | refine W.dopn rfl rfl op_neq rfl ?_ | refine W.dopn rfl rfl (op_sub (by omega) (by omega)) rfl ?_ | refine W.dopn rfl rfl (op_add (by omega) (by omega)) rfl ?_ | refine W.dopn (v := .int _ _) rfl rfl rfl rfl ?_ | refine W.dopn (v := .ptr _) rfl rfl rfl rfl ?_ | refine W.dopn (v := .bool _) rfl rfl rfl rfl ?_ | refine W.dopn (v := .slice _ _ _ _) rfl rfl rfl rfl ?_ | refine W.dopn (v := .agg _) rfl rfl rfl rfl ?_ | refine W.dopn (v := .tup _) rfl rfl rfl rfl ?_ | refine W.dopn rfl rfl rfl rfl ?_ | refine W.doffn rfl rfl ?_ | refine W.dnil ?_)
    refine SeqQ.normal ?_
    repeat (first | (with_reducible first | refine W.seq ?_ | refine W.block ?_ | refine W.region ?_ | refine W.draws ?_ | refine W.skip ?_ | refine W.exit ?_ | refine W.ret ?_ | refine SeqQ.normal ?_ | refine SeqQ.exit ?_ | refine SeqQ.ret ?_ | refine BlockQ.exit ?_ | refine BlockQ.normal ?_ | refine BlockQ.ret ?_ | refine BlockQ.other rfl ?_ | refine LoopQ.exit ?_ | refine CallQ.val ?_ | refine CutQ.normal ?_ | refine LoopQ.ret ?_) | refine W.offn rfl rfl ?_ | refine W.opn rfl op_lss rfl ?_ | refine W.opn rfl op_leq rfl ?_ | refine W.opn rfl op_eql rfl ?_ | refine W.opn rfl op_neq rfl ?_ | refine W.opn rfl (op_sub (by omega) (by omega)) rfl ?_ | refine W.opn rfl (op_add (by omega) (by omega)) rfl ?_ | refine W.opn (v := .int _ _) rfl rfl rfl ?_ | refine W.opn (v := .ptr _) rfl rfl rfl ?_ | refine W.opn (v := .bool _) rfl rfl rfl ?_ | refine W.opn (v := .slice _ _ _ _) rfl rfl rfl ?_ | refine W.opn (v := .agg _) rfl rfl rfl ?_ | refine W.opn (v := .tup _) rfl rfl rfl ?_ | refine W.opn rfl rfl rfl ?_ | refine W.offn rfl rfl ?_ | refine W.nil ?_)
    exact q _ (some c) (Y3.trans ds.x) ⟨c1, by omega, mv_all okL gw (by omega) (c3 rfl), fun z h1 h2 hmz => by have := c2 z h1 (by omega) hmz; omega⟩
  refine W.cond (x := true) rfl (fun _ => ?_) (fun hc => by cases hc)
  repeat (first | (with_reducible first | refine W.seq ?_ | refine W.block ?_ | refine W.region ?_ | refine W.draws ?_ | refine W.skip ?_ | refine W.exit ?_ | refine W.ret ?_ | refine SeqQ.normal ?_ | refine SeqQ.exit ?_ | refine SeqQ.ret ?_ | refine BlockQ.exit ?_ | refine BlockQ.normal ?_ | refine BlockQ.ret ?_ | refine BlockQ.other rfl ?_ | refine LoopQ.exit ?_ | refine CallQ.val ?_ | refine CutQ.normal ?_ | refine LoopQ.ret ?_) | refine W.offn rfl rfl ?_ | refine W.opn rfl op_lss rfl ?_ | refine W.opn rfl op_leq rfl ?_ | refine W.opn rfl op_eql rfl ?_ | refine W.opn rfl op_neq rfl ?_ | refine W.opn rfl (op_sub (by omega) (by omega)) rfl ?_ | refine W.opn rfl (op_add (by omega) (by omega)) rfl ?_ | refine W.opn (v := .int _ _) rfl rfl rfl ?_ | refine W.opn (v := .ptr _) rfl rfl rfl ?_ | refine W.opn (v := .bool _) rfl rfl rfl ?_ | refine W.opn (v := .slice _ _ _ _) rfl rfl rfl ?_ | refine W.opn (v := .agg _) rfl rfl rfl ?_ | refine W.opn (v := .tup _) rfl rfl rfl ?_ | refine W.opn rfl rfl rfl ?_ | refine W.offn rfl rfl ?_ | refine W.nil ?_)
  refine W.ldX Z rfl rfl rfl ge he rfl rfl ?_
  refine W.call rfl rfl rfl (movers_w (hE.ext Z) fun H6 pp X6 gp hp => ?_)
  have Y6 := Z.trans X6
  have hE6 := hE.ext Y6
  obtain ⟨fs, hfs⟩ : ∃ fs : List CV, fs = [.fn 30 [] [.ptr (some (pp, 0))], .fn 32 [] [.ptr (some (pp, 0))], .fn 34 [] [.ptr (some (pp, 0))]] := ⟨_, rfl⟩
  have hM : ∀ j, j < 3 → ∃ f, nth fs j = some f ∧ Mover H6 L w j f := by
    intro j hj
    rw [hfs]
    match j, hj with
    | 0, _ => exact ⟨_, rfl, fun z hz tm h7 Q X7 q7 => mv1_w ((X7.old _ hp).trans gp) (hE6.ext X7) hmw gw z hz q7⟩
    | 1, _ => exact ⟨_, rfl, fun z hz tm h7 Q X7 q7 => mv2_w ((X7.old _ hp).trans gp) (hE6.ext X7) hmL.1 okL.opn z hz q7⟩
    | 2, _ => exact ⟨_, rfl, fun z hz tm h7 Q X7 q7 => mv3_w ((X7.old _ hp).trans gp) (hE6.ext X7) hmL.2 okL.closed ⟨by omega, by omega⟩ z hz q7⟩
  rw [← hfs]
  clear hfs gp hE6
  refine W.anyTm (fun tm => tm.look 2 = .int .i64 c ∧ tm.look 8 = .ptr (some (Hd.next, 0)) ∧ tm.look 9 = .int .i64 (hz - L.len) ∧ tm.look 10 = .bool false ∧ tm.look 57 = .agg fs) ⟨rfl, rfl, rfl, rfl, rfl⟩ ?_
  rintro tm ⟨w2, w8, w9, w10, w57⟩
  obtain ⟨T, rfl⟩ : ∃ T : Tm, tm = (((((T.set 2 (some (.int .i64 c))).set 8 (some (.ptr (some (Hd.next, 0))))).set 9 (some (.int .i64 (hz - L.len)))).set 10 (some (.bool false))).set 57 (some (.agg fs))) := ⟨tm, (show tm = (((((tm.set 2 (some (tm.look 2))).set 8 (some (tm.look 8))).set 9 (some (tm.look 9))).set 10 (some (tm.look 10))).set 57 (some (tm.look 57))) by rfl).trans (by rw [w2, w8, w9, w10, w57])⟩
  clear w2 w8 w9 w10 w57
  repeat (first | (with_reducible first | refine W.seq ?_ | refine W.block ?_ | refine W.region ?_ | refine W.draws ?_ | refine W.skip ?_ | refine W.exit ?_ | refine W.ret ?_ | refine SeqQ.normal ?_ | refine SeqQ.exit ?_ | refine SeqQ.ret ?_ | refine BlockQ.exit ?_ | refine BlockQ.normal ?_ | refine BlockQ.ret ?_ | refine BlockQ.other rfl ?_ | refine LoopQ.exit ?_ | refine CallQ.val ?_ | refine CutQ.normal ?_ | refine LoopQ.ret ?_) | refine W.offn rfl rfl ?_ | refine W.opn rfl op_lss rfl ?_ | refine W.opn rfl op_leq rfl ?_ | refine W.opn rfl op_eql rfl ?_ | refine W.opn rfl op_neq rfl ?_ | refine W.opn rfl (op_sub (by omega) (by omega)) rfl ?_ | refine W.opn rfl (op_add (by omega) (by omega)) rfl ?_ | refine W.opn (v := .int _ _) rfl rfl rfl ?_ | refine W.opn (v := .ptr _) rfl rfl rfl ?_ | refine W.opn (v := .bool _) rfl rfl rfl ?_ | refine W.opn (v := .slice _ _ _ _) rfl rfl rfl ?_ | refine W.opn (v := .agg _) rfl rfl rfl ?_ | refine W.opn (v := .tup _) rfl rfl rfl ?_ | refine W.opn rfl rfl rfl ?_ | refine W.offn rfl rfl ?_ | refine W.nil ?_)
  refine W.loop (σ := Nat × Int × Bool) (fun st tm h' => tm.look 2 = .int .i64 st.2.1 ∧ tm.look 8 = .ptr (some (Hd.next, 0)) ∧ tm.look 9 = .int .i64 (hz - L.len) ∧ tm.look 10 = .bool st.2.2 ∧ tm.look 57 = .agg fs ∧ tm.look 58 = .int .i64 (st.1 : Int) ∧ (st.1 ≤ 3 ∧ c ≤ st.2.1 ∧ (∀ z, t ≤ z → z ≤ hz - L.len → (kOf L w).May z → st.2.1 ≤ z) ∧ (st.2.2 = false → st.2.1 = c ∧ ∀ j, j < st.1 → mv L w j c = c) ∧ (st.2.2 = true → c < st.2.1 ∧ c ≤ hz - L.len)) ∧ Ext H6 h') (fun st => 3 - st.1) ?_ (s := (0, c, false))
    ⟨rfl, rfl, rfl, rfl, rfl, rfl, ⟨by omega, Int.le_refl _, c2, fun _ => ⟨rfl, fun j hj => by omega⟩, fun h => by cases h⟩, Ext.refl _⟩
  rintro ⟨j, e, m⟩ tm h7 ⟨w2, w8, w9, w10, w57, w58, ⟨e1, e2, e3, e4, e5⟩, Z7⟩
  simp only at w2 w10 w58 e1 e2 e3 e4 e5
  obtain ⟨T, rfl⟩ : ∃ T : Tm, tm = ((((((T.set 2 (some (.int .i64 e))).set 8 (some (.ptr (some (Hd.next, 0))))).set 9 (some (.int .i64 (hz - L.len)))).set 10 (some (.bool m))).set 57 (some (.agg fs))).set 58 (some (.int .i64 (j : Int)))) := ⟨tm, (show tm = ((((((tm.set 2 (some (tm.look 2))).set 8 (some (tm.look 8))).set 9 (some (tm.look 9))).set 10 (some (tm.look 10))).set 57 (some (tm.look 57))).set 58 (some (tm.look 58))) by rfl).trans (by rw [w2, w8, w9, w10, w57, w58])⟩
  clear w2 w8 w9 w10 w57 w58
  repeat (first | (with_reducible first | refine W.seq ?_ | refine W.block ?_ | refine W.region ?_ | refine W.draws ?_ | refine W.skip ?_ | refine W.exit ?_ | refine W.ret ?_ | refine SeqQ.normal ?_ | refine SeqQ.exit ?_ | refine SeqQ.ret ?_ | refine BlockQ.exit ?_ | refine BlockQ.normal ?_ | refine BlockQ.ret ?_ | refine BlockQ.other rfl ?_ | refine LoopQ.exit ?_ | refine CallQ.val ?_ | refine CutQ.normal ?_ | refine LoopQ.ret ?_) | refine W.offn rfl rfl ?_ | refine W.opn rfl op_lss rfl ?_ | refine W.opn rfl op_leq rfl ?_ | refine W.opn rfl op_eql rfl ?_ | refine W.opn rfl op_neq rfl ?_ | refine W.opn rfl (op_sub (by omega) (by omega)) rfl ?_ | refine W.opn rfl (op_add (by omega) (by omega)) rfl ?_ | refine W.opn (v := .int _ _) rfl rfl rfl ?_ | refine W.opn (v := .ptr _) rfl rfl rfl ?_ | refine W.opn (v := .bool _) rfl rfl rfl ?_ | refine W.opn (v := .slice _ _ _ _) rfl rfl rfl ?_ | refine W.opn (v := .agg _) rfl rfl rfl ?_ | refine W.opn (v := .tup _) rfl rfl rfl ?_ | refine W.opn rfl rfl rfl ?_ | refine W.offn rfl rfl ?_ | refine W.nil ?_)
  by_cases k1 : (j : Int) < 3
  rotate_left
  · rw [decide_eq_false k1]
    have hj3 : j = 3 := by omega
    subst hj3
    refine W.cond (x := false) rfl (fun hc => by cases hc) (fun _ => ?_)
    repeat (first | (with_reducible first | refine W.seq ?_ | refine W.block ?_ | refine W.region ?_ | refine W.draws ?_ | refine W.skip ?_ | refine W.exit ?_ | refine W.ret ?_ | refine SeqQ.normal ?_ | refine SeqQ.exit ?_ | refine SeqQ.ret ?_ | refine BlockQ.exit ?_ | refine BlockQ.normal ?_ | refine BlockQ.ret ?_ | refine BlockQ.other rfl ?_ | refine LoopQ.exit ?_ | refine CallQ.val ?_ | refine CutQ.normal ?_ | refine LoopQ.ret ?_) | refine W.offn rfl rfl ?_ | refine W.opn rfl op_lss rfl ?_ | refine W.opn rfl op_leq rfl ?_ | refine W.opn rfl op_eql rfl ?_ | refine W.opn rfl op_neq rfl ?_ | refine W.opn rfl (op_sub (by omega) (by omega)) rfl ?_ | refine W.opn rfl (op_add (by omega) (by omega)) rfl ?_ | refine W.opn (v := .int _ _) rfl rfl rfl ?_ | refine W.opn (v := .ptr _) rfl rfl rfl ?_ | refine W.opn (v := .bool _) rfl rfl rfl ?_ | refine W.opn (v := .slice _ _ _ _) rfl rfl rfl ?_ | refine W.opn (v := .agg _) rfl rfl rfl ?_ | refine W.opn (v := .tup _) rfl rfl rfl ?_ | refine W.opn rfl rfl rfl ?_ | refine W.offn rfl rfl ?_ | refine W.nil ?_)
    refine ⟨(e, m), ?_, rfl, rfl, rfl, rfl, ⟨by show t ≤ e; omega, e3, fun hm j hj => ?_⟩, Y6.trans Z7⟩
    · cases m
      · obtain ⟨h1, _⟩ := e4 rfl
        subst h1
        show 2 * _ + 0 < 2 * _ + 1
        omega
      · obtain ⟨h1, h2⟩ := e5 rfl
        show 2 * (hz - L.len + 1 - e).toNat + 1 < 2 * (hz - L.len + 1 - c).toNat + 1
        omega
    · obtain ⟨h1, h2⟩ := e4 hm
      show mv L w j e = e
      rw [h1]
      exact h2 j hj
  rw [decide_eq_true k1]
  refine W.cond (x := true) rfl (fun _ => ?_) (fun hc => by cases hc)
  obtain ⟨f, hf, hMf⟩ := hM j (by omega)
  repeat (first | (with_reducible first | refine W.seq ?_ | refine W.block ?_ | refine W.region ?_ | refine W.draws ?_ | refine W.skip ?_ | refine W.exit ?_ | refine W.ret ?_ | refine SeqQ.normal ?_ | refine SeqQ.exit ?_ | refine SeqQ.ret ?_ | refine BlockQ.exit ?_ | refine BlockQ.normal ?_ | refine BlockQ.ret ?_ | refine BlockQ.other rfl ?_ | refine LoopQ.exit ?_ | refine CallQ.val ?_ | refine CutQ.normal ?_ | refine LoopQ.ret ?_) | refine W.offn rfl rfl ?_ | refine W.opn rfl op_lss rfl ?_ | refine W.opn rfl op_leq rfl ?_ | refine W.opn rfl op_eql rfl ?_ | refine W.opn rfl op_neq rfl ?_ | refine W.opn rfl (op_sub (by omega) (by omega)) rfl ?_ | refine W.opn rfl (op_add (by omega) (by omega)) rfl ?_ | refine W.opn (v := .int _ _) rfl rfl rfl ?_ | refine W.opn (v := .ptr _) rfl rfl rfl ?_ | refine W.opn (v := .bool _) rfl rfl rfl ?_ | refine W.opn (v := .slice _ _ _ _) rfl rfl rfl ?_ | refine W.opn (v := .agg _) rfl rfl rfl ?_ | refine W.opn (v := .tup _) rfl rfl rfl ?_ | refine W.opn rfl rfl rfl ?_ | refine W.offn rfl rfl ?_ | refine W.nil ?_)
  refine W.ixv rfl rfl rfl rfl rfl rfl rfl rfl rfl (place_of (j := j) rfl (by omega)) hf ?_
  repeat (first | (with_reducible first | refine W.seq ?_ | refine W.block ?_ | refine W.region ?_ | refine W.draws ?_ | refine W.skip ?_ | refine W.exit ?_ | refine W.ret ?_ | refine SeqQ.normal ?_ | refine SeqQ.exit ?_ | refine SeqQ.ret ?_ | refine BlockQ.exit ?_ | refine BlockQ.normal ?_ | refine BlockQ.ret ?_ | refine BlockQ.other rfl ?_ | refine LoopQ.exit ?_ | refine CallQ.val ?_ | refine CutQ.normal ?_ | refine LoopQ.ret ?_) | refine W.offn rfl rfl ?_ | refine W.opn rfl op_lss rfl ?_ | refine W.opn rfl op_leq rfl ?_ | refine W.opn rfl op_eql rfl ?_ | refine W.opn rfl op_neq rfl ?_ | refine W.opn rfl (op_sub (by omega) (by omega)) rfl ?_ | refine W.opn rfl (op_add (by omega) (by omega)) rfl ?_ | refine W.opn (v := .int _ _) rfl rfl rfl ?_ | refine W.opn (v := .ptr _) rfl rfl rfl ?_ | refine W.opn (v := .bool _) rfl rfl rfl ?_ | refine W.opn (v := .slice _ _ _ _) rfl rfl rfl ?_ | refine W.opn (v := .agg _) rfl rfl rfl ?_ | refine W.opn (v := .tup _) rfl rfl rfl ?_ | refine W.opn rfl rfl rfl ?_ | refine W.offn rfl rfl ?_ | refine W.nil ?_)
  by_cases k2 : hz - L.len < e
  · rw [decide_eq_true k2]
    refine W.cond (x := true) rfl (fun _ => ?_) (fun hc => by cases hc)
    repeat (first | (with_reducible first | refine W.seq ?_ | refine W.block ?_ | refine W.region ?_ | refine W.draws ?_ | refine W.skip ?_ | refine W.exit ?_ | refine W.ret ?_ | refine SeqQ.normal ?_ | refine SeqQ.exit ?_ | refine SeqQ.ret ?_ | refine BlockQ.exit ?_ | refine BlockQ.normal ?_ | refine BlockQ.ret ?_ | refine BlockQ.other rfl ?_ | refine LoopQ.exit ?_ | refine CallQ.val ?_ | refine CutQ.normal ?_ | refine LoopQ.ret ?_) | refine W.offn rfl rfl ?_ | refine W.opn rfl op_lss rfl ?_ | refine W.opn rfl op_leq rfl ?_ | refine W.opn rfl op_eql rfl ?_ | refine W.opn rfl op_neq rfl ?_ | refine W.opn rfl (op_sub (by omega) (by omega)) rfl ?_ | refine W.opn rfl (op_add (by omega) (by omega)) rfl ?_ | refine W.opn (v := .int _ _) rfl rfl rfl ?_ | refine W.opn (v := .ptr _) rfl rfl rfl ?_ | refine W.opn (v := .bool _) rfl rfl rfl ?_ | refine W.opn (v := .slice _ _ _ _) rfl rfl rfl ?_ | refine W.opn (v := .agg _) rfl rfl rfl ?_ | refine W.opn (v := .tup _) rfl rfl rfl ?_ | refine W.opn rfl rfl rfl ?_ | refine W.offn rfl rfl ?_ | refine W.nil ?_)
    exact q _ none ((Y3.trans Y6).trans Z7) (fun z h1 h2 hmz => by have := e3 z h1 h2 hmz; omega)
  rw [decide_eq_false k2]
  refine W.cond (x := false) rfl (fun hc => by cases hc) (fun _ => ?_)
  refine W.anyTm (fun tm => tm.look 2 = .int .i64 e ∧ tm.look 8 = .ptr (some (Hd.next, 0)) ∧ tm.look 9 = .int .i64 (hz - L.len) ∧ tm.look 10 = .bool m ∧ tm.look 12 = f ∧ tm.look 57 = .agg fs ∧ tm.look 58 = .int .i64 (j : Int)) ⟨rfl, rfl, rfl, rfl, rfl, rfl, rfl⟩ ?_
  rintro tm ⟨w2, w8, w9, w10, w12, w57, w58⟩
  obtain ⟨T, rfl⟩ : ∃ T : Tm, tm = (((((((T.set 2 (some (.int .i64 e))).set 8 (some (.ptr (some (Hd.next, 0))))).set 9 (some (.int .i64 (hz - L.len)))).set 10 (some (.bool m))).set 12 (some (f))).set 57 (some (.agg fs))).set 58 (some (.int .i64 (j : Int)))) := ⟨tm, (show tm = (((((((tm.set 2 (some (tm.look 2))).set 8 (some (tm.look 8))).set 9 (some (tm.look 9))).set 10 (some (tm.look 10))).set 12 (some (tm.look 12))).set 57 (some (tm.look 57))).set 58 (some (tm.look 58))) by rfl).trans (by rw [w2, w8, w9, w10, w12, w57, w58])⟩
  clear w2 w8 w9 w10 w12 w57 w58
  repeat (first | (with_reducible first | refine W.seq ?_ | refine W.block ?_ | refine W.region ?_ | refine W.draws ?_ | refine W.skip ?_ | refine W.exit ?_ | refine W.ret ?_ | refine SeqQ.normal ?_ | refine SeqQ.exit ?_ | refine SeqQ.ret ?_ | refine BlockQ.exit ?_ | refine BlockQ.normal ?_ | refine BlockQ.ret ?_ | refine BlockQ.other rfl ?_ | refine LoopQ.exit ?_ | refine CallQ.val ?_ | refine CutQ.normal ?_ | refine LoopQ.ret ?_) | refine W.offn rfl rfl ?_ | refine W.opn rfl op_lss rfl ?_ | refine W.opn rfl op_leq rfl ?_ | refine W.opn rfl op_eql rfl ?_ | refine W.opn rfl op_neq rfl ?_ | refine W.opn rfl (op_sub (by omega) (by omega)) rfl ?_ | refine W.opn rfl (op_add (by omega) (by omega)) rfl ?_ | refine W.opn (v := .int _ _) rfl rfl rfl ?_ | refine W.opn (v := .ptr _) rfl rfl rfl ?_ | refine W.opn (v := .bool _) rfl rfl rfl ?_ | refine W.opn (v := .slice _ _ _ _) rfl rfl rfl ?_ | refine W.opn (v := .agg _) rfl rfl rfl ?_ | refine W.opn (v := .tup _) rfl rfl rfl ?_ | refine W.opn rfl rfl rfl ?_ | refine W.offn rfl rfl ?_ | refine W.nil ?_)
  refine W.call rfl rfl rfl (hMf e ⟨by omega, by omega⟩ _ _ _ Z7 fun h8 X8 => ?_)
  have hge := mv_ge (w := w) (j := j) okL (by omega : e ≤ 1099511627776)
  obtain ⟨u', hu'⟩ : ∃ u', u' = mv L w j e := ⟨_, rfl⟩
  rw [← hu'] at hge ⊢
  repeat (first | (with_reducible first | refine W.seq ?_ | refine W.block ?_ | refine W.region ?_ | refine W.draws ?_ | refine W.skip ?_ | refine W.exit ?_ | refine W.ret ?_ | refine SeqQ.normal ?_ | refine SeqQ.exit ?_ | refine SeqQ.ret ?_ | refine BlockQ.exit ?_ | refine BlockQ.normal ?_ | refine BlockQ.ret ?_ | refine BlockQ.other rfl ?_ | refine LoopQ.exit ?_ | refine CallQ.val ?_ | refine CutQ.normal ?_ | refine LoopQ.ret ?_) | refine W.offn rfl rfl ?_ | refine W.opn rfl op_lss rfl ?_ | refine W.opn rfl op_leq rfl ?_ | refine W.opn rfl op_eql rfl ?_ | refine W.opn rfl op_neq rfl ?_ | refine W.opn rfl (op_sub (by omega) (by omega)) rfl ?_ | refine W.opn rfl (op_add (by omega) (by omega)) rfl ?_ | refine W.opn (v := .int _ _) rfl rfl rfl ?_ | refine W.opn (v := .ptr _) rfl rfl rfl ?_ | refine W.opn (v := .bool _) rfl rfl rfl ?_ | refine W.opn (v := .slice _ _ _ _) rfl rfl rfl ?_ | refine W.opn (v := .agg _) rfl rfl rfl ?_ | refine W.opn (v := .tup _) rfl rfl rfl ?_ | refine W.opn rfl rfl rfl ?_ | refine W.offn rfl rfl ?_ | refine W.nil ?_)
  by_cases k3 : u' = e
  · rw [decide_eq_false (fun h => h k3 : ¬ u' ≠ e)]
    refine W.cond (x := false) rfl (fun hc => by cases hc) (fun _ => ?_)
    repeat (first | (with_reducible first | refine W.seq ?_ | refine W.block ?_ | refine W.region ?_ | refine W.draws ?_ | refine W.skip ?_ | refine W.exit ?_ | refine W.ret ?_ | refine SeqQ.normal ?_ | refine SeqQ.exit ?_ | refine SeqQ.ret ?_ | refine BlockQ.exit ?_ | refine BlockQ.normal ?_ | refine BlockQ.ret ?_ | refine BlockQ.other rfl ?_ | refine LoopQ.exit ?_ | refine CallQ.val ?_ | refine CutQ.normal ?_ | refine LoopQ.ret ?_) | refine W.offn rfl rfl ?_ | refine W.opn rfl op_lss rfl ?_ | refine W.opn rfl op_leq rfl ?_ | refine W.opn rfl op_eql rfl ?_ | refine W.opn rfl op_neq rfl ?_ | refine W.opn rfl (op_sub (by omega) (by omega)) rfl ?_ | refine W.opn rfl (op_add (by omega) (by omega)) rfl ?_ | refine W.opn (v := .int _ _) rfl rfl rfl ?_ | refine W.opn (v := .ptr _) rfl rfl rfl ?_ | refine W.opn (v := .bool _) rfl rfl rfl ?_ | refine W.opn (v := .slice _ _ _ _) rfl rfl rfl ?_ | refine W.opn (v := .agg _) rfl rfl rfl ?_ | refine W.opn (v := .tup _) rfl rfl rfl ?_ | refine W.opn rfl rfl rfl ?_ | refine W.offn rfl rfl ?_ | refine W.nil ?_)
    refine ⟨(j + 1, e, m), by show 3 - (j + 1) < 3 - j; omega, rfl, rfl, rfl, rfl, rfl, rfl, ⟨by show j + 1 ≤ 3; omega, e2, e3, fun hm => ?_, e5⟩, Z7.trans X8⟩
    obtain ⟨h1, h2⟩ := e4 hm
    refine ⟨h1, fun i hi => ?_⟩
    by_cases hij : i = j
    · rw [hij, ← h1, ← hu']; exact k3
    · exact h2 i (by have : i < j + 1 := hi; omega)
  · rw [decide_eq_true k3]
    refine W.cond (x := true) rfl (fun _ => ?_) (fun hc => by cases hc)
    repeat (first | (with_reducible first | refine W.seq ?_ | refine W.block ?_ | refine W.region ?_ | refine W.draws ?_ | refine W.skip ?_ | refine W.exit ?_ | refine W.ret ?_ | refine SeqQ.normal ?_ | refine SeqQ.exit ?_ | refine SeqQ.ret ?_ | refine BlockQ.exit ?_ | refine BlockQ.normal ?_ | refine BlockQ.ret ?_ | refine BlockQ.other rfl ?_ | refine LoopQ.exit ?_ | refine CallQ.val ?_ | refine CutQ.normal ?_ | refine LoopQ.ret ?_) | refine W.offn rfl rfl ?_ | refine W.opn rfl op_lss rfl ?_ | refine W.opn rfl op_leq rfl ?_ | refine W.opn rfl op_eql rfl ?_ | refine W.opn rfl op_neq rfl ?_ | refine W.opn rfl (op_sub (by omega) (by omega)) rfl ?_ | refine W.opn rfl (op_add (by omega) (by omega)) rfl ?_ | refine W.opn (v := .int _ _) rfl rfl rfl ?_ | refine W.opn (v := .ptr _) rfl rfl rfl ?_ | refine W.opn (v := .bool _) rfl rfl rfl ?_ | refine W.opn (v := .slice _ _ _ _) rfl rfl rfl ?_ | refine W.opn (v := .agg _) rfl rfl rfl ?_ | refine W.opn (v := .tup _) rfl rfl rfl ?_ | refine W.opn rfl rfl rfl ?_ | refine W.offn rfl rfl ?_ | refine W.nil ?_)
    refine ⟨(j + 1, u', true), by show 3 - (j + 1) < 3 - j; omega, rfl, rfl, rfl, rfl, rfl, rfl, ⟨by show j + 1 ≤ 3; omega, by show c ≤ u'; omega, fun z h1 h2 hmz => ?_, (fun h => by cases h), fun _ => ⟨by show c < u'; omega, by omega⟩⟩, Z7.trans X8⟩
    show u' ≤ z
    rw [hu']
    exact mv_least okL gw hmz (e3 z h1 h2 hmz)
end
end Go.Proofs.Ytdcegklfbhfddaa
