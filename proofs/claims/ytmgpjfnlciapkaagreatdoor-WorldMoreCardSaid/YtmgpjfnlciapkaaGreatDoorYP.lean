/- Windows that overlap or touch put together. No condition but that memory beyond the next number is empty. -/
import Derived.Test.YtmgpjfnlciapkaaGreatDoorYM
set_option linter.unusedVariables false
set_option linter.unusedSimpArgs false
namespace Go.Proofs.YtmgpjfnlciapkaaGreatDoor
open Go Go.CM Go.CM.Tt
noncomputable section
set_option maxHeartbeats 16000000
def mx (a b : Int) : Int := match intLe b a with
  | true => a
  | false => b
theorem mx_eq {a b : Int} : mx a b = if b ≤ a then a else b := by
  unfold mx
  rw [intLe_eq]
  by_cases h : b ≤ a
  · rw [if_pos h, decide_eq_true h]
  · rw [if_neg h, decide_eq_false h]
theorem winE_len {w : List (Int × Int)} : ∀ e ∈ w.map winE, e.length = 2 := fun e he => by
  obtain ⟨u, _, rfl⟩ := List.mem_map.1 he
  rfl
structure JB (h H : Heap) (b y : Nat) (v : CV) (ws : List (Int × Int)) : Prop where
  at' : h.get b = some (.cells [v] false)
  lt : b < h.next
  lo : H.next ≤ b
  own : OwnG h H.next 2 v (ws.map winE)
  ne : idOf v ≠ [b]
  ny : idOf v ≠ [y]
  big : ∀ i, idOf v = [i] → i < h.next ∧ H.next ≤ i
theorem JB.other {h h' H : Heap} {b y : Nat} {v : CV} {ws : List (Int × Int)} (o : JB h H b y v ws) (hn : h.next ≤ h'.next) (hb : h'.get b = h.get b) (hk : ∀ i, idOf v = [i] → h'.get i = h.get i) : JB h' H b y v ws := by
  refine ⟨hb.trans o.at', Nat.lt_of_lt_of_le o.lt hn, o.lo, ?_, o.ne, o.ny, fun i hi => ⟨Nat.lt_of_lt_of_le (o.big i hi).1 hn, (o.big i hi).2⟩⟩
  rcases o.own with ⟨h1, h2⟩ | ⟨i, rfl, h1, h2, h3, h4, h5⟩
  · exact .inl ⟨h1, h2⟩
  · exact .inr ⟨i, rfl, h1, by omega, (hk i rfl).trans h3, h4, h5⟩
theorem JB.sl {h H : Heap} {b y : Nat} {v : CV} {ws : List (Int × Int)} (o : JB h H b y v ws) (hv : ws = [] → v = .slice none 0 0 0) : Sl h v ws := by
  refine Sl.of_map Flat.iff ?_
  rcases o.own with ⟨h1, h2⟩ | ⟨i, rfl, h1, h2, h3, h4, h5⟩
  · have hw : ws = [] := by simpa using h2
    rw [hv hw, hw]
    exact .inl ⟨rfl, rfl⟩
  · exact .inr (.inr ⟨i, 0, _, 2, _, false, rfl, h2, h3, fun j e he => ⟨h4 e (List.mem_of_getElem? he), flat_cut h4 he⟩, Nat.le_refl _, .inr rfl⟩)
theorem drop_of {α : Type} {l : List α} {k : Nat} {u : α} (hu : l[k]? = some u) : l.drop k = u :: l.drop (k + 1) := by
  have hk := (List.getElem?_eq_some_iff.1 hu).1
  rw [List.drop_eq_getElem_cons hk]
  congr 1
  rw [List.getElem?_eq_getElem hk] at hu
  exact Option.some.inj hu
theorem joined_w {h : Heap} {tm : Tm} {Q : R → Prop} {b3 bt : Nat} {n : Nat} {t : Times} (fr : Fresh h) (L3 : LocE h b3 0 [.int .i64 (n : Int)]) (Lt : LocE h bt 0 t.enc) (hn : n ≤ 256) (b1 : 0 ≤ t.frm ∧ t.frm ≤ 1099511627776) (b2 : 0 ≤ t.evr ∧ t.evr ≤ 1099511627776) (b3' : 0 ≤ t.len ∧ t.len ≤ 1099511627776)
    (q : ∀ h' v, Ext h h' → Sl h' v (Wins.join ((List.range n).map (winAt t))) → Q (.val v h')) : W E1 (.call (.fn 174 [] []) [.fn 178 [] [.ptr (some (b3, 0)), .ptr (some (bt, 0))]]) tm h Q := by
  refine W.fn (s := fnOf Tryz.f174) rfl rfl rfl rfl ?_
  obtain ⟨l, hl⟩ : ∃ l, l = (List.range n).map (winAt t) := ⟨_, rfl⟩
  rw [← hl] at q
  have hll : l.length = n := by rw [hl]; simp
  have hlk : ∀ k, k < n → l[k]? = some (winAt t k) := fun k hk => by rw [hl, List.getElem?_map, List.getElem?_range hk]; rfl
  repeat (first | (with_reducible first | refine W.seq ?_ | refine W.block ?_ | refine W.region ?_ | refine SeqQ.normal ?_) | refine W.al rfl rfl rfl fun h_ X_ n_ g_ L_ => ?_ | refine W.opn rfl rfl rfl ?_ | refine W.nil ?_)
  refine W.keep2 2 5 fun T k2 k5 => ?_
  conv at k2 => rhs; whnf
  conv at k5 => rhs; whnf
  rw [show T = ((T.set 2 (some (T.look 2))).set 5 (some (T.look 5))) from rfl, k2, k5]
  clear k2 k5
  refine W.rangeX rfl fun B hB => ?_
  obtain ⟨b, hb⟩ : ∃ b, b = h.next := ⟨_, rfl⟩
  obtain ⟨y, hy⟩ : ∃ y, y = h_.next := ⟨_, rfl⟩
  have gb : h_.get b = some (.cells [.slice none 0 0 0] false) := by rw [hb]; exact g_
  have XN : Ext h (h_.new B) := X_.trans (Ext.new _ _)
  rw [← hy, ← hb]
  rw [← hb] at hB
  clear L_ g_
  refine each_w (H := h) (n := n) (t := t) y (fun k h' => ∃ v ws, JB h' h b y v ws ∧ h'.get y = some B ∧ y < h'.next ∧ Ext h h' ∧ (ws = [] → v = .slice none 0 0 0) ∧ ws.length ≤ k ∧ ((k = 0 ∧ ws = []) ∨ ∃ done p, ws = done ++ [p] ∧ Wins.join l = done ++ Wins.joinP p (l.drop k))) L3 Lt hn b1 b2 b3' ?_ (fun k h' ⟨_, _, _, _, _, X, _⟩ => X) ?_ ?_
  · refine ⟨_, [], ⟨(Ext.new h_ B).old b (by omega) |>.trans gb, by show b < h_.next + 1; omega, by omega, .inl ⟨.inl rfl, rfl⟩, (fun e => by cases e), (fun e => by cases e), (fun i hi => by cases hi)⟩, by rw [hy]; exact new_same _ _, by show y < h_.next + 1; omega, XN, fun _ => rfl, Nat.le_refl _, .inl ⟨rfl, rfl⟩⟩
  · rintro k hk h' tm' Q' ⟨v, ws, jb, gy, ly, X, hv0, hwk, hst⟩ q2
    rw [hB] at gy
    refine W.yieldX gy rfl ?_
    repeat (first | (with_reducible first | refine W.region ?_ | refine CutQ.normal ?_) | refine W.var rfl rfl rfl rfl rfl rfl rfl rfl rfl (by first | rfl | assumption) rfl fun h_ X_ n_ g_ L_ => ?_ | refine W.nil ?_)
    refine ⟨_, _, _, _, _, (X_.old y ly).trans gy, fun G nG gG kG => ?_⟩
    have hby : b ≠ y := by omega
    have jbG : JB G h b y v ws := jb.other (by omega) ((kG b hby).trans (X_.old b jb.lt)) fun i hi => (kG i (fun e => jb.ny (by rw [hi, e]))).trans (X_.old i (jb.big i hi).1)
    have Lw : LocE G h'.next 0 (winE (winAt t k)) := L_.of_get (kG _ (by omega)) (by omega)
    have Lb : LocE G b 0 [v] := ⟨_, _, jbG.at', jbG.lt, rfl⟩
    have slG := jbG.sl hv0
    have XG : Ext h G := ⟨by have := X.next; omega, fun j hj => (kG j (by omega)).trans ((X.trans X_).old j hj), fun f j hj => (kG j (by omega)).trans ((X.trans X_).fr f j (by omega))⟩
    have hdr : l.drop k = winAt t k :: l.drop (k + 1) := drop_of (hlk k hk)
    have lyG : y < G.next := by omega
    obtain ⟨u, hu⟩ : ∃ u, u = winAt t k := ⟨_, rfl⟩
    rw [← hu] at Lw hdr
    clear jb gy X_ n_ g_ L_ gb XN X kG nG
    have fin : ∀ {tm : Tm} (J : Heap) (v' : CV) (ws' : List (Int × Int)), JB J h b y v' ws' → J.get y = G.get y → y < J.next → Ext h J → (ws' = [] → v' = .slice none 0 0 0) → ws'.length ≤ k + 1 → (∃ done p, ws' = done ++ [p] ∧ Wins.join l = done ++ Wins.joinP p (l.drop (k + 1))) → RoundQ y Q' (.code .normal tm J) := fun {tm} J v' ws' o gy2 ly2 X2 hv2 hl2 hs2 => by
      refine RoundQ.norm (gy2.trans gG) fun J2 n2 g2 k2 => q2 J2 ⟨v', ws', o.other (by omega) (k2 b hby) fun i hi => k2 i (fun e => o.ny (by rw [hi, e])), by rw [hB]; exact g2, by omega, ⟨by have := X2.next; omega, fun j hj => (k2 j (by omega)).trans (X2.old j hj), fun f j hj => (k2 j (by omega)).trans (X2.fr f j (by omega))⟩, hv2, hl2, .inr hs2⟩
    repeat (first | (with_reducible first | refine W.seq ?_ | refine W.block ?_ | refine W.region ?_ | refine W.draws ?_ | refine SeqQ.normal ?_) | refine W.lnS (by assumption) rfl rfl rfl rfl rfl rfl rfl rfl ?_ | refine W.opn rfl (op_sub (by omega) (by omega)) rfl ?_ | refine W.opn (v := .int _ _) rfl rfl rfl ?_ | refine W.nil ?_ | refine W.ld0 (by assumption) (by (repeat (first | assumption | exact Ext.refl _ | refine Ext.trans ?_ (by assumption))); done) rfl rfl rfl rfl rfl rfl rfl rfl ?_)
    have ds := DX.start (XG.fr fr)
    rcases hst with ⟨hk0, rfl⟩ | ⟨done, p, rfl, hj⟩
    · repeat (first | refine W.doffn rfl rfl ?_ | refine W.dopn rfl rfl op_leq rfl ?_ | refine W.dopn (v := .int _ _) rfl rfl rfl rfl ?_ | refine W.dopn (v := .bool _) rfl rfl rfl rfl ?_ | refine W.dnil ?_ | rw [decide_eq_false (by first | assumption | omega)])
      repeat (first | (with_reducible first | refine W.region ?_ | refine SeqQ.normal ?_) | refine W.bsS rfl rfl rfl fun h_ X_ n_ g_ S_ => ?_ | refine W.ldw (by assumption) (by (repeat (first | assumption | exact Ext.refl _ | refine Ext.trans ?_ (by assumption))); done) rfl rfl rfl rfl (by first | rfl | assumption) rfl rfl ?_ | refine W.ld0 (by assumption) (by (repeat (first | assumption | exact Ext.refl _ | refine Ext.trans ?_ (by assumption))); done) rfl rfl rfl rfl rfl rfl rfl rfl ?_ | refine W.cond (x := false) rfl (fun hc => by cases hc) (fun _ => ?_))
      have g7 : h_.get G.next = some (.cells (winE u) false) := g_
      have jbH := jbG.other (h' := h_) (by omega) (X_.old b jbG.lt) fun i hi => X_.old i (jbG.big i hi).1
      have gl := jbG.lt
      have xn := XG.next
      refine W.ap1 (lo := h.next) jbH.own (by omega) g7 rfl rfl rfl rfl rfl rfl rfl rfl rfl rfl rfl rfl rfl (by
        rw [List.length_map]
        show (_ + 1) * 16 ≤ _
        omega) fun v' h5 n5 O5 k5 ev g5 f5 => ?_
      subst ev
      have gb5 := (k5 b (by omega) (.inr fun n c x e => jbG.ne (by rw [e]; rfl))).trans jbH.at'
      skip
      refine W.stn (vs := [.slice (some (h_.next, 0)) ((([]).map winE).length + 1) ((([]).map winE).length + 1) 2]) (cs' := [.slice (some (h_.next, 0)) ((([]).map winE).length + 1) ((([]).map winE).length + 1) 2]) rfl rfl rfl rfl rfl rfl gb5 rfl fun J nJ gJ kJ => ?_
      repeat (first | (with_reducible first | refine BlockQ.normal ?_) | refine W.nil ?_)
      have XJ : Ext h J := ⟨by omega, fun j hj => (kJ j (by omega)).trans ((k5 j (by omega) (.inr fun n c x e => by have := (jbG.big j (by rw [e]; rfl)).2; omega)).trans ((XG.trans X_).old j hj)), fun f j hj => (kJ j (by omega)).trans (f5 ((XG.trans X_).fr f) j (by omega))⟩
      refine fin J _ (([]) ++ [u]) ⟨gJ, by omega, by omega, .inr ⟨h_.next, by simp, by omega, by omega, (kJ _ (by omega)).trans (by rw [List.map_append]; exact g5), winE_len, by simp⟩, (fun e => by have : h_.next = b := (by simpa [idOf] using e); omega), (fun e => by have : h_.next = y := (by simpa [idOf] using e); omega), fun i hi => by have : h_.next = i := (by simpa [idOf] using hi); omega⟩ ((kJ y (by omega)).trans ((k5 y (by omega) (.inr fun n c x e => jbG.ny (by rw [e]; rfl))).trans (X_.old y lyG))) (by omega) XJ (fun e => by simp at e) (by rw [List.length_append]; exact Nat.succ_le_succ hwk) ⟨[], u, rfl, by rw [hk0, List.drop_zero] at hdr; rw [hdr, hk0]; rfl⟩
    · have hl1 : (done ++ [p]).length = done.length + 1 := by rw [List.length_append]; rfl
      have hp : ((done ++ [p]).map winE)[done.length]? = some (winE p) := by rw [List.getElem?_map, List.getElem?_append_right (Nat.le_refl _), Nat.sub_self]; rfl
      rcases jbG.own with ⟨_, hno⟩ | ⟨io, ev, l1, l2, l4, l5, _⟩
      · simp at hno
      rw [List.length_map] at ev
      subst ev
      repeat (first | refine W.dopn rfl rfl op_leq rfl ?_ | refine W.dopn (v := .int _ _) rfl rfl rfl rfl ?_ | refine W.dopn (v := .ptr _) rfl rfl rfl rfl ?_ | refine W.dopn (v := .bool _) rfl rfl rfl rfl ?_ | refine W.dl0 (by assumption) (by assumption) (by (repeat (first | assumption | exact Ext.refl _ | refine Ext.trans ?_ (by assumption))); done) rfl rfl rfl rfl rfl rfl rfl fun r_ h_ ds_ s_ => ?_ | rw [decide_eq_true (by first | assumption | omega)])
      refine W.dix rfl rfl rfl rfl rfl rfl rfl (place_of (j := done.length) (by omega) (by omega)) ?_
      repeat (first | refine W.dopn (v := .ptr _) rfl rfl rfl rfl ?_)
      have ds2 := ds_
      refine W.dldZ ds2 rfl rfl rfl l4 l2 rfl (v := .int .i64 p.2) (flat_get l5 hp rfl) fun r2 h2 ds3 s3 => ?_
      clear ds_ ds2
      have X3 := ds3.x
      by_cases c2 : u.1 ≤ p.2
      · repeat (first | refine W.dopn rfl rfl op_leq rfl ?_ | refine W.dopn (v := .bool _) rfl rfl rfl rfl ?_ | refine W.dnil ?_ | rw [decide_eq_true (by first | assumption | omega)])
        repeat (first | (with_reducible first | refine W.draws ?_ | refine SeqQ.normal ?_) | refine W.cond (x := true) rfl (fun _ => ?_) (fun hc => by cases hc))
        have ds5 := DX.start ((XG.trans X3).fr fr)
        clear ds ds3
        repeat (first | refine W.dopn (v := .int _ _) rfl rfl rfl rfl ?_ | refine W.dl0 (by assumption) (by assumption) (by (repeat (first | assumption | exact Ext.refl _ | refine Ext.trans ?_ (by assumption))); done) rfl rfl rfl rfl rfl rfl rfl fun r_ h_ ds_ s_ => ?_)
        refine W.dix rfl rfl rfl rfl rfl rfl rfl (place_of (j := done.length) (by omega) (by omega)) ?_
        repeat (first | refine W.dopn (v := .ptr _) rfl rfl rfl rfl ?_)
        have ds6 := ds_
        refine W.dldZ ds6 rfl rfl rfl ((X3.old io l2).trans l4) (Nat.lt_of_lt_of_le l2 X3.next) rfl (v := .int .i64 p.2) (flat_get l5 hp rfl) fun r4 h4 ds7 s4 => ?_
        clear ds_ ds6
        repeat (first | refine W.dopn (v := .int _ _) rfl rfl rfl rfl ?_ | refine W.dopn (v := .ptr _) rfl rfl rfl rfl ?_ | refine W.dlk (by assumption) (by assumption) (by (repeat (first | assumption | exact Ext.refl _ | refine Ext.trans ?_ (by assumption))); done) rfl rfl rfl rfl rfl rfl rfl fun r_ h_ ds_ s_ => ?_)
        refine W.dix rfl rfl rfl rfl rfl rfl rfl (place_of (j := done.length) (by omega) (by omega)) ?_
        repeat (first | refine W.dopn (v := .ptr _) rfl rfl rfl rfl ?_)
        have X4 := ds_.x
        have XX := X3.trans X4
        refine W.dst (vs := [.int .i64 (mx p.2 u.2)]) (cs' := (((done ++ [p]).map winE).set done.length ((winE p).set 1 (.int .i64 (mx p.2 u.2)))).flatten) ds_.hri rfl rfl rfl rfl rfl rfl rfl ((XX.old io l2).trans l4) (flat_setAt l5 (by decide) hp) fun r5 J hr5 s5 => ?_
        repeat (first | refine W.dnil ?_)
        repeat (first | (with_reducible first | refine BlockQ.normal ?_))
        have e5 : ((done ++ [p]).map winE).set done.length ((winE p).set 1 (.int .i64 (mx p.2 u.2))) = (done ++ [(p.1, if u.2 ≤ p.2 then p.2 else u.2)]).map winE := by
          rw [mx_eq, List.map_append, List.map_append, List.set_append_right _ _ (by rw [List.length_map]; omega), List.length_map, Nat.sub_self]
          rfl
        have gJ : J.get io = some (.cells ((done ++ [(p.1, if u.2 ≤ p.2 then p.2 else u.2)]).map winE).flatten false) := by
          rw [s5.get, put_same, e5]
        have kJ : ∀ k, k ≠ io → J.get k = G.get k ∨ G.next ≤ k := fun k hk => by
          by_cases c : k < G.next
          · left; rw [s5.get, Heap.get_put, if_neg (Ne.symm hk)]; exact XX.old k c
          · right; omega
        have nJ : G.next ≤ J.next := by rw [s5.next]; exact XX.next
        have XJ : Ext h J := ((XG.trans XX).put l1 (Nat.lt_of_lt_of_le l2 XX.next) _).trans s5.ext
        have lb := jbG.lt
        have jne : io ≠ b := fun e => jbG.ne (by rw [e]; rfl)
        have jny : io ≠ y := fun e => jbG.ny (by rw [e]; rfl)
        have gbJ : J.get b = G.get b := by rcases kJ b (Ne.symm jne) with e | e; exact e; omega
        have gyJ : J.get y = G.get y := by rcases kJ y (Ne.symm jny) with e | e; exact e; omega
        have l1' : (done ++ [(p.1, if u.2 ≤ p.2 then p.2 else u.2)]).length = (done ++ [p]).length := by rw [List.length_append, List.length_append]; rfl
        exact fin J _ (done ++ [(p.1, if u.2 ≤ p.2 then p.2 else u.2)]) ⟨gbJ.trans jbG.at', by omega, jbG.lo, .inr ⟨io, by rw [List.length_map, l1'], l1, by omega, gJ, winE_len, by simp⟩, jbG.ne, jbG.ny, fun i hi => ⟨by have := (jbG.big i hi).1; omega, (jbG.big i hi).2⟩⟩ gyJ (by omega) XJ (fun e => by simp at e) (by omega) ⟨done, _, rfl, by rw [hj, hdr]; rw [show Wins.joinP p (u :: l.drop (k + 1)) = if u.1 ≤ p.2 then Wins.joinP (p.1, if u.2 ≤ p.2 then p.2 else u.2) (l.drop (k + 1)) else p :: Wins.joinP u (l.drop (k + 1)) from rfl, if_pos c2]⟩
      · repeat (first | refine W.dopn rfl rfl op_leq rfl ?_ | refine W.dopn (v := .bool _) rfl rfl rfl rfl ?_ | refine W.dnil ?_ | rw [decide_eq_false (by first | assumption | omega)])
        repeat (first | (with_reducible first | refine W.region ?_ | refine SeqQ.normal ?_) | refine W.bsS rfl rfl rfl fun h_ X_ n_ g_ S_ => ?_ | refine W.ldw (by assumption) (by (repeat (first | assumption | exact Ext.refl _ | refine Ext.trans ?_ (by assumption))); done) rfl rfl rfl rfl (by first | rfl | assumption) rfl rfl ?_ | refine W.ld0 (by assumption) (by (repeat (first | assumption | exact Ext.refl _ | refine Ext.trans ?_ (by assumption))); done) rfl rfl rfl rfl rfl rfl rfl rfl ?_ | refine W.cond (x := false) rfl (fun hc => by cases hc) (fun _ => ?_))
        have jb2 := jbG.other (h' := h2) X3.next (X3.old b jbG.lt) fun i hi => X3.old i (jbG.big i hi).1
        have XG2 := XG.trans X3
        have lyG2 : y < h2.next := Nat.lt_of_lt_of_le lyG X3.next
        have g7 : h_.get h2.next = some (.cells (winE u) false) := g_
        have jbH := jb2.other (h' := h_) (by omega) (X_.old b jb2.lt) fun i hi => X_.old i (jb2.big i hi).1
        have gl := jb2.lt
        have xn := XG2.next
        refine W.ap1 (lo := h.next) jbH.own (by omega) g7 rfl rfl rfl rfl rfl rfl rfl rfl rfl rfl rfl rfl rfl (by
          rw [List.length_map]
          show (_ + 1) * 16 ≤ _
          omega) fun v' h5 n5 O5 k5 ev g5 f5 => ?_
        subst ev
        have gb5 := (k5 b (by omega) (.inr fun n c x e => jb2.ne (by rw [e]; rfl))).trans jbH.at'
        skip
        refine W.stn (vs := [.slice (some (h_.next, 0)) (((done ++ [p]).map winE).length + 1) (((done ++ [p]).map winE).length + 1) 2]) (cs' := [.slice (some (h_.next, 0)) (((done ++ [p]).map winE).length + 1) (((done ++ [p]).map winE).length + 1) 2]) rfl rfl rfl rfl rfl rfl gb5 rfl fun J nJ gJ kJ => ?_
        repeat (first | (with_reducible first | refine BlockQ.normal ?_) | refine W.nil ?_)
        have XJ : Ext h J := ⟨by omega, fun j hj => (kJ j (by omega)).trans ((k5 j (by omega) (.inr fun n c x e => by have := (jb2.big j (by rw [e]; rfl)).2; omega)).trans ((XG2.trans X_).old j hj)), fun f j hj => (kJ j (by omega)).trans (f5 ((XG2.trans X_).fr f) j (by omega))⟩
        refine fin J _ ((done ++ [p]) ++ [u]) ⟨gJ, by omega, by omega, .inr ⟨h_.next, by simp, by omega, by omega, (kJ _ (by omega)).trans (by rw [List.map_append]; exact g5), winE_len, by simp⟩, (fun e => by have : h_.next = b := (by simpa [idOf] using e); omega), (fun e => by have : h_.next = y := (by simpa [idOf] using e); omega), fun i hi => by have : h_.next = i := (by simpa [idOf] using hi); omega⟩ ((kJ y (by omega)).trans ((k5 y (by omega) (.inr fun n c x e => jb2.ny (by rw [e]; rfl))).trans ((X_.old y lyG2).trans (X3.old y lyG)))) (by omega) XJ (fun e => by simp at e) (by rw [List.length_append]; exact Nat.succ_le_succ hwk) ⟨done ++ [p], u, rfl, by rw [hj, hdr, List.append_assoc]; show done ++ Wins.joinP p (u :: l.drop (k + 1)) = done ++ (p :: Wins.joinP u (l.drop (k + 1))); rw [show Wins.joinP p (u :: l.drop (k + 1)) = if u.1 ≤ p.2 then Wins.joinP (p.1, if u.2 ≤ p.2 then p.2 else u.2) (l.drop (k + 1)) else p :: Wins.joinP u (l.drop (k + 1)) from rfl, if_neg c2]⟩
  · rintro h' ⟨v, ws, jb, gy, ly, X, hv0, hwk, hst⟩
    rw [hB] at gy
    refine RangeQ.val gy rfl ?_
    have hby : b ≠ y := by omega
    have jd : JB (h'.del y) h b y v ws := jb.other (Nat.le_refl _) (by rw [Heap.get_del, if_neg (Ne.symm hby)]) fun i hi => by rw [Heap.get_del, if_neg (fun e => jb.ny (by rw [hi, e]))]
    have Xd : Ext h (h'.del y) := X.del (by omega)
    obtain ⟨K, hK⟩ : ∃ K, K = h'.del y := ⟨_, rfl⟩
    rw [← hK] at jd Xd
    rw [← hK]
    have Lb : LocE K b 0 [v] := ⟨_, _, jd.at', jd.lt, rfl⟩
    have sl := jd.sl hv0
    repeat (first | (with_reducible first | refine W.seq ?_ | refine W.region ?_ | refine SeqQ.normal ?_ | refine BlockQ.normal ?_) | refine W.ld0 (by assumption) (by (repeat (first | assumption | exact Ext.refl _ | refine Ext.trans ?_ (by assumption))); done) rfl rfl rfl rfl rfl rfl rfl rfl ?_)
    refine W.stn (vs := [v]) (cs' := [v]) rfl rfl rfl sl.cells rfl rfl jd.at' rfl fun M nM gM kM => ?_
    repeat (first | (with_reducible first | refine W.ret ?_ | refine SeqQ.normal ?_) | refine W.nil ?_)
    have je : JB M h b y v ws := jd.other (by omega) (gM.trans jd.at'.symm) fun i hi => kM i (fun e => jd.ne (by rw [hi, e]))
    have XM : Ext h M := Ext.store Xd nM kM (by omega) jd.lt
    have hj : Wins.join l = ws := by
      rcases hst with ⟨h0, rfl⟩ | ⟨done, p, rfl, hj⟩
      · have : l = [] := List.eq_nil_of_length_eq_zero (by omega)
        rw [this]; rfl
      · rw [hj, List.drop_of_length_le (by omega)]; rfl
    refine BodyQ.cell1 rfl rfl gM rfl rfl ?_
    exact q _ _ XM (by rw [hj]; exact je.sl hv0)
end
end Go.Proofs.YtmgpjfnlciapkaaGreatDoor
