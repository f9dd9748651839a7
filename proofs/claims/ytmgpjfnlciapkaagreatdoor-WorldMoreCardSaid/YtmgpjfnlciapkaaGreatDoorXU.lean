/- More rules for walks: a variable alone; loads by place in drawn regions. No condition, no program. -/
import Derived.Test.YtmgpjfnlciapkaaGreatDoorXT
import Derived.Test.YtmgpjfnlciapkaaGreatDoorYI
set_option linter.unusedVariables false
set_option linter.unusedSimpArgs false
noncomputable section
namespace Go.CM
section
variable {E : Env} {tm : Tm} {H H0 h h' : Heap} {Q : R → Prop} {all rest : List Oper} {o : Oper} {bs : List Bits} {recs : List Rec} {i : Nat} {idx nx : List Nat}
theorem W.al {t : TypeId} {s : TyS} (hgd : guardOn all tm o = some true) (hop : o.op = .alloc t) (hs : E.ty t = some s)
    (w : ∀ h', Ext h h' → h'.next = h.next + 1 → h'.get h.next = some (.cells s.zero false) → LocE h' h.next 0 s.zero → W E (.ops all rest) (putTmp tm o.dst (.ptr (some (h.next, 0)))) h' Q) : W E (.ops all (o :: rest)) tm h Q := by
  refine W.op hgd (v := .ptr (some (h.next, 0))) (h1 := h.new (.cells s.zero false)) ?_ (w _ (Ext.new _ _) rfl (new_same _ _) (LocE.new _ _ _))
  unfold opAny
  rw [hop]
  show newPtr h ((E.ty t).map (·.zero)) = _
  rw [hs]; rfl
theorem W.mn {c : Call} {a b : Int} {a0 a1 a2 a3 a4 a5 a6 a7 a8 a9 a10 a11 a12 a13 a14 a15 : NA} {a16 : Tree CV} (hgd : guardOn all tm o = some true) (hop : o.op = .call c) (hb : isBuiltin c.callee = some .min) (ha : c.args.toList.map (cvOf E.globs tm) = [.int .i64 a, .int .i64 b])
    (ht : putTmp tm o.dst (.int .i64 (min a b)) = (Tm.mk a0 a1 a2 a3 a4 a5 a6 a7 a8 a9 a10 a11 a12 a13 a14 a15 a16)) (w : W E (.ops all rest) (Tm.mk a0 a1 a2 a3 a4 a5 a6 a7 a8 a9 a10 a11 a12 a13 a14 a15 a16) h Q) : W E (.ops all (o :: rest)) tm h Q := by
  refine W.op hgd (v := .int .i64 (min a b)) (h1 := h) ?_ (by rw [ht]; exact w)
  unfold opAny
  rw [hop]
  simp only [hb]
  show builtinV E h .min c.argTypes.toList (c.args.toList.map (cvOf E.globs tm)) = _
  rw [ha]
  show withH h (fold2 (max2 false) (.int .i64 a) [.int .i64 b]) = _
  have e : max2 false (.int .i64 a) (.int .i64 b) = some (.int .i64 (min a b)) := by
    unfold max2
    simp only [intLe_eq]
    by_cases c : a ≤ b
    · rw [show min a b = a by omega]
      by_cases d : b ≤ a
      · have : a = b := by omega
        subst this
        simp
      · simp [c, d]
    · rw [show min a b = b by omega]
      have d : b ≤ a := by omega
      simp [c, d]
  simp [fold2, e, withH]
theorem W.dlk {t : TypeId} {x : Operand} {id off k : Nat} {e : List CV} {s : TyS} {v : CV} (L : LocE H0 id off e) (ds : DX H h idx nx recs) (X : Ext H0 H) (hgd : guardOn all tm o = some true) (hop : o.op = .load t x) (hx : cvOf E.globs tm x = .ptr (some (id, off + k))) (hs : E.ty t = some s) (h1 : s.size = 1) (h2 : s.agg = false) (he : e[k]? = some v)
    (w : ∀ recs' h', DX H h' (i :: idx) nx recs' → Same h h' → W E (.draw bs all rest (i + 1) recs') (putTmp tm o.dst v) h' Q) : W E (.draw bs all (o :: rest) i recs) tm h Q := by
  obtain ⟨cs, ro, g1, g2, g3⟩ := L
  have hn := cut_nth g3 he
  refine W.dldZ ds hgd hop hx ((X.old id g2).trans g1) (Nat.lt_of_lt_of_le g2 X.next) hs (v := v) ?_ w
  rw [h1, h2]
  exact hn
theorem W.dl0 {t : TypeId} {x : Operand} {id off : Nat} {e : List CV} {s : TyS} {v : CV} (L : LocE H0 id off e) (ds : DX H h idx nx recs) (X : Ext H0 H) (hgd : guardOn all tm o = some true) (hop : o.op = .load t x) (hx : cvOf E.globs tm x = .ptr (some (id, off))) (hs : E.ty t = some s) (h1 : s.size = 1) (h2 : s.agg = false) (he : e[0]? = some v)
    (w : ∀ recs' h', DX H h' (i :: idx) nx recs' → Same h h' → W E (.draw bs all rest (i + 1) recs') (putTmp tm o.dst v) h' Q) : W E (.draw bs all (o :: rest) i recs) tm h Q := W.dlk (k := 0) L ds X hgd hop hx hs h1 h2 he w
theorem W.dlp {t : TypeId} {x : Operand} {id off k : Nat} {e e2 : List CV} {s : TyS} (L : LocE H0 id off e) (ds : DX H h idx nx recs) (X : Ext H0 H) (hgd : guardOn all tm o = some true) (hop : o.op = .load t x) (hx : cvOf E.globs tm x = .ptr (some (id, off + k))) (hs : E.ty t = some s) (h2 : s.agg = true) (he : cut e k s.size = some e2)
    (w : ∀ recs' h', DX H h' (i :: idx) nx recs' → Same h h' → W E (.draw bs all rest (i + 1) recs') (putTmp tm o.dst (.agg e2)) h' Q) : W E (.draw bs all (o :: rest) i recs) tm h Q := by
  obtain ⟨cs, ro, g1, g2, g3⟩ := L
  have hn : cut cs (off + k) s.size = some e2 := by
    rw [cut_eq] at g3 he ⊢
    split at g3
    · rename_i l1
      have g3 := Option.some.inj g3
      split at he
      · rename_i l2
        have he := Option.some.inj he
        rw [if_pos (by omega), ← he, ← g3]
        congr 1
        rw [List.drop_take, List.take_take, List.drop_drop]
        congr 1
        omega
      · cases he
    · cases g3
  refine W.dldZ ds hgd hop hx ((X.old id g2).trans g1) (Nat.lt_of_lt_of_le g2 X.next) hs (v := .agg e2) ?_ w
  rw [h2]
  show (cut cs (off + k) s.size).map CV.agg = _
  rw [hn]; rfl
theorem OwnR.idlt {lo z : Nat} {v : CV} {l : List (List CV)} {k : Nat} (o : OwnR h lo z v l) (hk : idOf v = [k]) : k < h.next ∧ lo ≤ k := by
  rcases o with ⟨rfl, rfl⟩ | ⟨i, y, ro, rfl, h1, h2, _⟩
  · cases hk
  · have : i = k := by simpa [idOf] using hk
    subst this
    exact ⟨h2, h1⟩
theorem W.apR2 {c : Call} {t t2 e : TypeId} {ts es t2s : TyS} {s s2 : CV} {z : Nat} {l l2 : List (List CV)} (X : Ext H h) (so : OwnR h H.next z s l) (s2l : SlG h z s2 l2) (hne : l2 ≠ [])
    (hgd : guardOn all tm o = some true) (hop : o.op = .call c) (hb : isBuiltin c.callee = some .append) (hty : c.argTypes.toList = [t, t2]) (ha : c.args.toList.map (cvOf E.globs tm) = [s, s2])
    (hts : E.ty t = some ts) (hk : ts.kind = .slice e) (hes : E.ty e = some es) (hz : es.size = z) (hz0 : (Nat.beq es.size 0 || Nat.beq es.bytes 0) = false) (ht2 : E.ty t2 = some t2s) (hk2 : t2s.kind = .slice e) (hm : (l.length + l2.length) * es.bytes ≤ 70368744177664)
    (w : ∀ v' h', Ext H h' → OwnR h' H.next z v' (l ++ l2) → (∀ k, k < h.next → idOf s ≠ [k] → h'.get k = h.get k) → h'.next = h.next + 1 → idOf v' = [h.next] → W E (.ops all rest) (putTmp tm o.dst v') h' Q) : W E (.ops all (o :: rest)) tm h Q := by
  obtain ⟨v', h', k1, k2, k2b, k3, k4, k5, k6, k7⟩ := append_own X.next so s2l hts hk hes hz hz0 ht2 hk2 hm
  have X' : Ext H h' := ⟨Nat.le_trans X.next k2, fun k hk => (k3 k (Nat.lt_of_lt_of_le hk X.next) (.inl hk)).trans (X.old k hk), fun f => k4 (X.fr f)⟩
  refine W.op hgd (v := v') (h1 := h') ?_ (w v' h' X' k5 (fun k hk hs => k3 k hk (.inr hs)) (k7 hne).2 (k7 hne).1)
  unfold opAny
  rw [hop]
  simp only [hb]
  show builtinV E h .append c.argTypes.toList (c.args.toList.map (cvOf E.globs tm)) = _
  rw [hty, ha]
  exact k1
theorem LocE.sub {i off k : Nat} {e e2 : List CV} {m : Nat} (L : LocE h i off e) (he : cut e k m = some e2) : LocE h i (off + k) e2 := by
  obtain ⟨cs, ro, g1, g2, g3⟩ := L
  refine ⟨cs, ro, g1, g2, ?_⟩
  rw [cut_eq] at g3 he ⊢
  split at g3
  · rename_i l1
    have g3 := Option.some.inj g3
    split at he
    · rename_i l2
      have he := Option.some.inj he
      have hl : e2.length = m := by rw [← he, List.length_take, List.length_drop]; omega
      rw [hl, if_pos (by omega), ← he, ← g3]
      congr 1
      rw [List.drop_take, List.take_take, List.drop_drop]
      congr 1
      omega
    · cases he
  · cases g3
end
theorem BodyQ.cell1 {E : Env} {tm : Tm} {h : Heap} {Q : R → Prop} {rs : List ResultVar} {a i off : Nat} {t : TypeId} {s : TyS} {cs : List CV} {ro : Bool} {v : CV} (hrs : rs = [.cell a t]) (ha : tm.look a = .ptr (some (i, off))) (hg : h.get i = some (.cells cs ro)) (hs : E.ty t = some s) (hp : CM.part cs off s.size s.agg = some v)
    (q : Q (.val v h)) : BodyQ E rs Q (.code .ret tm h) := by
  show Q (kBody E rs (.code .ret tm h))
  have e : resultVals E h tm rs = some [v] := by
    subst hrs
    have hl : CM.load E h t i off = some v := by
      unfold CM.load loadB
      simp only [hg, hs, hp]
    have h3 : tm.get a = some (.ptr (some (i, off))) := by
      have : tm.get a = some (tm.look a) := rfl
      rw [this, ha]
    unfold resultVals
    simp only [h3, hl, resultVals]
  unfold kBody
  simp only [e]
  exact q
end Go.CM

namespace Go.Proofs.YtmgpjfnlciapkaaGreatDoor
open Go Go.CM Go.CM.Tt
noncomputable section
set_option maxHeartbeats 8000000
theorem name1_w {h : Heap} {tm : Tm} {Q : R → Prop} (d : PathS) (q : ∀ h', Ext h h' → Q (.val (.str d.name) h')) : W E1 (.call (.fn 85 [] []) [.agg d.enc]) tm h Q := by
  refine W.fn (s := fnOf Tryz.f85) rfl rfl rfl rfl ?_
  repeat (first | (with_reducible first | refine W.seq ?_ | refine W.region ?_ | refine W.ret ?_ | refine SeqQ.normal ?_) | refine W.box rfl rfl rfl fun h_ X_ n_ g_ L_ => ?_ | refine W.opn (v := .ptr _) rfl rfl rfl ?_ | refine W.opn rfl rfl rfl ?_ | refine W.nil ?_ | refine W.ldk (by assumption) (by (repeat (first | assumption | exact Ext.refl _ | refine Ext.trans ?_ (by assumption))); done) rfl rfl rfl rfl rfl rfl rfl rfl ?_)
  exact q _ X_
theorem name2_w {h : Heap} {tm : Tm} {Q : R → Prop} (d : DoorS) (q : ∀ h', Ext h h' → Q (.val (.str d.name) h')) : W E1 (.call (.fn 87 [] []) [.agg d.enc]) tm h Q := by
  refine W.fn (s := fnOf Tryz.f87) rfl rfl rfl rfl ?_
  repeat (first | (with_reducible first | refine W.seq ?_ | refine W.region ?_ | refine W.ret ?_ | refine SeqQ.normal ?_) | refine W.box rfl rfl rfl fun h_ X_ n_ g_ L_ => ?_ | refine W.opn (v := .ptr _) rfl rfl rfl ?_ | refine W.opn rfl rfl rfl ?_ | refine W.nil ?_ | refine W.ldk (by assumption) (by (repeat (first | assumption | exact Ext.refl _ | refine Ext.trans ?_ (by assumption))); done) rfl rfl rfl rfl rfl rfl rfl rfl ?_)
  exact q _ X_
theorem name4_w {h : Heap} {tm : Tm} {Q : R → Prop} (d : TripS) (q : ∀ h', Ext h h' → Q (.val (.str d.name) h')) : W E1 (.call (.fn 91 [] []) [.agg d.enc]) tm h Q := by
  refine W.fn (s := fnOf Tryz.f91) rfl rfl rfl rfl ?_
  repeat (first | (with_reducible first | refine W.seq ?_ | refine W.region ?_ | refine W.ret ?_ | refine SeqQ.normal ?_) | refine W.box rfl rfl rfl fun h_ X_ n_ g_ L_ => ?_ | refine W.opn (v := .ptr _) rfl rfl rfl ?_ | refine W.opn rfl rfl rfl ?_ | refine W.nil ?_ | refine W.ldk (by assumption) (by (repeat (first | assumption | exact Ext.refl _ | refine Ext.trans ?_ (by assumption))); done) rfl rfl rfl rfl rfl rfl rfl rfl ?_)
  exact q _ X_
theorem name5_w {h : Heap} {tm : Tm} {Q : R → Prop} (d : HazS) (q : ∀ h', Ext h h' → Q (.val (.str d.name) h')) : W E1 (.call (.fn 93 [] []) [.agg d.enc]) tm h Q := by
  refine W.fn (s := fnOf Tryz.f93) rfl rfl rfl rfl ?_
  repeat (first | (with_reducible first | refine W.seq ?_ | refine W.region ?_ | refine W.ret ?_ | refine SeqQ.normal ?_) | refine W.box rfl rfl rfl fun h_ X_ n_ g_ L_ => ?_ | refine W.opn (v := .ptr _) rfl rfl rfl ?_ | refine W.opn rfl rfl rfl ?_ | refine W.nil ?_ | refine W.ldk (by assumption) (by (repeat (first | assumption | exact Ext.refl _ | refine Ext.trans ?_ (by assumption))); done) rfl rfl rfl rfl rfl rfl rfl rfl ?_)
  exact q _ X_
theorem name3_w {h : Heap} {tm : Tm} {Q : R → Prop} {e : List CV} {d : RouteS} (r : Rp.R h e d) (q : ∀ h', Ext h h' → Q (.val (.str d.name) h')) : W E1 (.call (.fn 89 [] []) [.agg e]) tm h Q := by
  obtain ⟨u1, u2, u3, rfl, t1, t2, t3⟩ := r
  refine W.fn (s := fnOf Tryz.f89) rfl rfl rfl rfl ?_
  repeat (first | (with_reducible first | refine W.seq ?_ | refine W.region ?_ | refine W.ret ?_ | refine SeqQ.normal ?_) | refine W.box rfl rfl rfl fun h_ X_ n_ g_ L_ => ?_ | refine W.opn (v := .ptr _) rfl rfl rfl ?_ | refine W.opn rfl rfl rfl ?_ | refine W.nil ?_ | refine W.ldk (by assumption) (by (repeat (first | assumption | exact Ext.refl _ | refine Ext.trans ?_ (by assumption))); done) rfl rfl rfl rfl rfl rfl rfl rfl ?_)
  exact q _ X_
theorem place_w {h : Heap} {tm : Tm} {Q : R → Prop} {v : CV} {l : List Str} (s : Str) (sl : Sl h v l) (hm : l.length ≤ 1099511627776)
    (q : Q (.val (.int .i64 (place l s)) h)) : W E1 (.call (.fn 28 [] []) [v, .str s]) tm h Q := by
  refine W.fn (s := fnOf Tryz.f28) rfl rfl rfl rfl ?_
  repeat (first | (with_reducible first | refine W.seq ?_ | refine W.region ?_ | refine SeqQ.normal ?_) | refine W.opn (v := .int _ _) rfl rfl rfl ?_ | refine W.opn rfl rfl rfl ?_ | refine W.nil ?_)
  refine W.call rfl rfl rfl (index_w s sl hm ?_)
  repeat (first | (with_reducible first | refine W.ret ?_ | refine SeqQ.normal ?_ | refine CallQ.val ?_) | refine W.opn (v := .int _ _) rfl rfl rfl ?_ | refine W.nil ?_)
  exact q
theorem stop_w {H h : Heap} {tm : Tm} {Q : R → Prop} {b : Nat} {c0 v : CV} {rest : List CV} {l : List Str} (L : LocE H b 0 (c0 :: v :: rest)) (sl : Sl H v l) (X : Ext H h) (s : Str) (hm : l.length ≤ 1099511627776)
    (q : Q (.val (.int .i64 (place l s)) h)) : W E1 (.call (.fn 94 [] [.ptr (some (b, 0))]) [.str s]) tm h Q := by
  refine W.fn (s := fnOf Tryz.f94) rfl rfl rfl rfl ?_
  repeat (first | (with_reducible first | refine W.seq ?_ | refine W.region ?_ | refine SeqQ.normal ?_) | refine W.opn (v := .int _ _) rfl rfl rfl ?_ | refine W.opn (v := .ptr _) rfl rfl rfl ?_ | refine W.opn rfl rfl rfl ?_ | refine W.nil ?_ | refine W.ldk (by assumption) (by (repeat (first | assumption | exact Ext.refl _ | refine Ext.trans ?_ (by assumption))); done) rfl rfl rfl rfl rfl rfl rfl rfl ?_)
  refine W.call rfl rfl rfl (place_w s (sl.ext X) hm ?_)
  repeat (first | (with_reducible first | refine W.ret ?_ | refine SeqQ.normal ?_ | refine CallQ.val ?_) | refine W.opn (v := .int _ _) rfl rfl rfl ?_ | refine W.nil ?_)
  exact q
theorem num7_w {H h : Heap} {tm : Tm} {Q : R → Prop} {b b5 : Nat} {c0 v : CV} {rest : List CV} {l : List Str} (L : LocE H b 0 (c0 :: v :: rest)) (L5 : LocE H b5 0 [.fn 94 [] [.ptr (some (b, 0))]]) (sl : Sl H v l) (X : Ext H h) (fr : Fresh h) (d : PathS) (hm : l.length ≤ 1099511627776)
    (q : ∀ h', Ext h h' → Q (.val (.agg (d.num l).enc) h')) : W E1 (.call (.fn 96 [] [.ptr (some (b5, 0))]) [.agg d.enc]) tm h Q := by
  refine W.fn (s := fnOf Tryz.f96) rfl rfl rfl rfl ?_
  repeat (first | (with_reducible first | refine W.seq ?_ | refine W.region ?_ | refine W.draws ?_ | refine SeqQ.normal ?_) | refine W.box rfl rfl rfl fun h_ X_ n_ g_ L_ => ?_ | refine W.al rfl rfl rfl fun h_ X_ n_ g_ L_ => ?_ | refine W.nil ?_)
  rename_i ha Xa na ga La
  have Xh : Ext h h_ := Xa.trans X_
  have ds := DX.start (Xh.fr fr)
  repeat (first | refine W.dopn (v := .ptr _) rfl rfl rfl rfl ?_ | refine W.dl0 (by assumption) (by assumption) (by (repeat (first | assumption | exact Ext.refl _ | refine Ext.trans ?_ (by assumption))); done) rfl rfl rfl rfl rfl rfl rfl fun r_ h_ ds_ s_ => ?_ | refine W.dlk (by assumption) (by assumption) (by (repeat (first | assumption | exact Ext.refl _ | refine Ext.trans ?_ (by assumption))); done) rfl rfl rfl rfl rfl rfl rfl fun r_ h_ ds_ s_ => ?_)
  have X1 : Ext H h_ := (X.trans Xh).trans ds_.x
  refine W.dcallZ ds_ rfl rfl rfl rfl (stop_w L sl X1 d.a hm (DZ.val (Ext.refl _) fun r1 h1 ds1 s1 => ?_))
  clear ds_ ds
  repeat (first | refine W.dopn (v := .ptr _) rfl rfl rfl rfl ?_ | refine W.dl0 (by assumption) (by assumption) (by (repeat (first | assumption | exact Ext.refl _ | refine Ext.trans ?_ (by assumption))); done) rfl rfl rfl rfl rfl rfl rfl fun r_ h_ ds_ s_ => ?_ | refine W.dlk (by assumption) (by assumption) (by (repeat (first | assumption | exact Ext.refl _ | refine Ext.trans ?_ (by assumption))); done) rfl rfl rfl rfl rfl rfl rfl fun r_ h_ ds_ s_ => ?_)
  have X2 : Ext H h_ := (X.trans Xh).trans ds_.x
  refine W.dcallZ ds_ rfl rfl rfl rfl (stop_w L sl X2 d.b hm (DZ.val (Ext.refl _) fun r2 h2 ds2 s2 => ?_))
  clear ds_ ds1
  repeat (first | refine W.dopn (v := .ptr _) rfl rfl rfl rfl ?_ | refine W.dopn (v := .agg _) rfl rfl rfl rfl ?_ | refine W.dlk (by assumption) (by assumption) (by (repeat (first | assumption | exact Ext.refl _ | refine Ext.trans ?_ (by assumption))); done) rfl rfl rfl rfl rfl rfl rfl fun r_ h_ ds_ s_ => ?_)
  refine W.dst (vs := (d.num l).enc) (cs' := (d.num l).enc) ds_.hri rfl rfl rfl rfl rfl rfl rfl ((ds_.x.old ha.next (by omega)).trans g_) rfl fun r4 h4 hr4 s4 => ?_
  have g4 : h4.get ha.next = some (.cells (d.num l).enc false) := by rw [s4.get, put_same]
  have nx := ds_.x.next
  have Xf : Ext h h4 := ((Xh.trans ds_.x).put (by omega) (by omega) _).trans s4.ext
  repeat (first | refine W.dnil ?_)
  repeat (first | (with_reducible first | refine W.ret ?_ | refine SeqQ.normal ?_))
  refine BodyQ.cell1 rfl rfl g4 rfl rfl ?_
  exact q _ Xf
theorem num8_w {H h : Heap} {tm : Tm} {Q : R → Prop} {b b5 : Nat} {c0 v : CV} {rest : List CV} {l : List Str} (L : LocE H b 0 (c0 :: v :: rest)) (L5 : LocE H b5 0 [.fn 94 [] [.ptr (some (b, 0))]]) (sl : Sl H v l) (X : Ext H h) (fr : Fresh h) (d : DoorS) (hm : l.length ≤ 1099511627776)
    (q : ∀ h', Ext h h' → Q (.val (.agg (d.num l).enc) h')) : W E1 (.call (.fn 98 [] [.ptr (some (b5, 0))]) [.agg d.enc]) tm h Q := by
  refine W.fn (s := fnOf Tryz.f98) rfl rfl rfl rfl ?_
  repeat (first | (with_reducible first | refine W.seq ?_ | refine W.region ?_ | refine W.draws ?_ | refine SeqQ.normal ?_) | refine W.box rfl rfl rfl fun h_ X_ n_ g_ L_ => ?_ | refine W.al rfl rfl rfl fun h_ X_ n_ g_ L_ => ?_ | refine W.nil ?_)
  rename_i ha Xa na ga La
  have Xh : Ext h h_ := Xa.trans X_
  have ds := DX.start (Xh.fr fr)
  repeat (first | refine W.dopn (v := .ptr _) rfl rfl rfl rfl ?_ | refine W.dl0 (by assumption) (by assumption) (by (repeat (first | assumption | exact Ext.refl _ | refine Ext.trans ?_ (by assumption))); done) rfl rfl rfl rfl rfl rfl rfl fun r_ h_ ds_ s_ => ?_ | refine W.dlk (by assumption) (by assumption) (by (repeat (first | assumption | exact Ext.refl _ | refine Ext.trans ?_ (by assumption))); done) rfl rfl rfl rfl rfl rfl rfl fun r_ h_ ds_ s_ => ?_)
  have X1 : Ext H h_ := (X.trans Xh).trans ds_.x
  refine W.dcallZ ds_ rfl rfl rfl rfl (stop_w L sl X1 d.a hm (DZ.val (Ext.refl _) fun r1 h1 ds1 s1 => ?_))
  clear ds_ ds
  repeat (first | refine W.dopn (v := .ptr _) rfl rfl rfl rfl ?_ | refine W.dl0 (by assumption) (by assumption) (by (repeat (first | assumption | exact Ext.refl _ | refine Ext.trans ?_ (by assumption))); done) rfl rfl rfl rfl rfl rfl rfl fun r_ h_ ds_ s_ => ?_ | refine W.dlk (by assumption) (by assumption) (by (repeat (first | assumption | exact Ext.refl _ | refine Ext.trans ?_ (by assumption))); done) rfl rfl rfl rfl rfl rfl rfl fun r_ h_ ds_ s_ => ?_)
  have X2 : Ext H h_ := (X.trans Xh).trans ds_.x
  refine W.dcallZ ds_ rfl rfl rfl rfl (stop_w L sl X2 d.b hm (DZ.val (Ext.refl _) fun r2 h2 ds2 s2 => ?_))
  clear ds_ ds1
  repeat (first | refine W.dopn (v := .ptr _) rfl rfl rfl rfl ?_ | refine W.dopn (v := .agg _) rfl rfl rfl rfl ?_ | refine W.dlk (by assumption) (by assumption) (by (repeat (first | assumption | exact Ext.refl _ | refine Ext.trans ?_ (by assumption))); done) rfl rfl rfl rfl rfl rfl rfl fun r_ h_ ds_ s_ => ?_ | refine W.dlp (by assumption) (by assumption) (by (repeat (first | assumption | exact Ext.refl _ | refine Ext.trans ?_ (by assumption))); done) rfl rfl rfl rfl rfl rfl fun r_ h_ ds_ s_ => ?_)
  refine W.dst (vs := (d.num l).enc) (cs' := (d.num l).enc) ds_.hri rfl rfl rfl rfl rfl rfl rfl ((ds_.x.old ha.next (by omega)).trans g_) rfl fun r4 h4 hr4 s4 => ?_
  have g4 : h4.get ha.next = some (.cells (d.num l).enc false) := by rw [s4.get, put_same]
  have nx := ds_.x.next
  have Xf : Ext h h4 := ((Xh.trans ds_.x).put (by omega) (by omega) _).trans s4.ext
  repeat (first | refine W.dnil ?_)
  repeat (first | (with_reducible first | refine W.ret ?_ | refine SeqQ.normal ?_))
  refine BodyQ.cell1 rfl rfl g4 rfl rfl ?_
  exact q _ Xf
theorem num10_w {H h : Heap} {tm : Tm} {Q : R → Prop} {b4 w3 : Nat} {n1 n2 n3 v n5 n6 : CV} {l : List Str} (L4 : LocE H b4 0 [.ptr (some (w3, 0 + 1))]) (Ln : LocE H w3 (0 + 1) [n1, n2, n3, v, n5, n6]) (sl : Sl H v l) (X : Ext H h) (fr : Fresh h) (d : TripS) (hm : l.length ≤ 1099511627776)
    (q : ∀ h', Ext h h' → Q (.val (.agg (d.num l).enc) h')) : W E1 (.call (.fn 104 [] [.ptr (some (b4, 0))]) [.agg d.enc]) tm h Q := by
  refine W.fn (s := fnOf Tryz.f104) rfl rfl rfl rfl ?_
  repeat (first | (with_reducible first | refine W.seq ?_ | refine W.region ?_ | refine W.draws ?_ | refine SeqQ.normal ?_) | refine W.box rfl rfl rfl fun h_ X_ n_ g_ L_ => ?_ | refine W.al rfl rfl rfl fun h_ X_ n_ g_ L_ => ?_ | refine W.nil ?_)
  rename_i ha Xa na ga La
  have Xh : Ext h h_ := Xa.trans X_
  have ds := DX.start (Xh.fr fr)
  repeat (first | refine W.dopn (v := .ptr _) rfl rfl rfl rfl ?_ | refine W.dl0 (by assumption) (by assumption) (by (repeat (first | assumption | exact Ext.refl _ | refine Ext.trans ?_ (by assumption))); done) rfl rfl rfl rfl rfl rfl rfl fun r_ h_ ds_ s_ => ?_ | refine W.dlk (by assumption) (by assumption) (by (repeat (first | assumption | exact Ext.refl _ | refine Ext.trans ?_ (by assumption))); done) rfl rfl rfl rfl rfl rfl rfl fun r_ h_ ds_ s_ => ?_)
  have X1 : Ext H h_ := (X.trans Xh).trans ds_.x
  refine W.dcallZ ds_ rfl rfl rfl rfl (place_w d.route (sl.ext X1) hm (DZ.val (Ext.refl _) fun r1 h1 ds1 s1 => ?_))
  clear ds_ ds
  repeat (first | refine W.dopn (v := .ptr _) rfl rfl rfl rfl ?_ | refine W.dopn (v := .agg _) rfl rfl rfl rfl ?_ | refine W.dlk (by assumption) (by assumption) (by (repeat (first | assumption | exact Ext.refl _ | refine Ext.trans ?_ (by assumption))); done) rfl rfl rfl rfl rfl rfl rfl fun r_ h_ ds_ s_ => ?_)
  refine W.dst (vs := (d.num l).enc) (cs' := (d.num l).enc) ds_.hri rfl rfl rfl rfl rfl rfl rfl ((ds_.x.old ha.next (by omega)).trans g_) rfl fun r4 h4 hr4 s4 => ?_
  have g4 : h4.get ha.next = some (.cells (d.num l).enc false) := by rw [s4.get, put_same]
  have nx := ds_.x.next
  have Xf : Ext h h4 := ((Xh.trans ds_.x).put (by omega) (by omega) _).trans s4.ext
  repeat (first | refine W.dnil ?_)
  repeat (first | (with_reducible first | refine W.ret ?_ | refine SeqQ.normal ?_))
  refine BodyQ.cell1 rfl rfl g4 rfl rfl ?_
  exact q _ Xf
theorem num11_w {H h : Heap} {tm : Tm} {Q : R → Prop} {b b5 b4 w3 : Nat} {c0 vs n1 v n3 n4 n5 n6 : CV} {rest : List CV} {l m : List Str} (L : LocE H b 0 (c0 :: vs :: rest)) (L5 : LocE H b5 0 [.fn 94 [] [.ptr (some (b, 0))]]) (ss : Sl H vs l) (L4 : LocE H b4 0 [.ptr (some (w3, 0 + 1))]) (Ln : LocE H w3 (0 + 1) [n1, v, n3, n4, n5, n6]) (sl : Sl H v m) (X : Ext H h) (fr : Fresh h) (d : HazS) (hl : l.length ≤ 1099511627776) (hm : m.length ≤ 1099511627776)
    (q : ∀ h', Ext h h' → Q (.val (.agg (d.num l m).enc) h')) : W E1 (.call (.fn 106 [] [.ptr (some (b5, 0)), .ptr (some (b4, 0))]) [.agg d.enc]) tm h Q := by
  refine W.fn (s := fnOf Tryz.f106) rfl rfl rfl rfl ?_
  repeat (first | (with_reducible first | refine W.seq ?_ | refine W.region ?_ | refine SeqQ.normal ?_) | refine W.box rfl rfl rfl fun h_ X_ n_ g_ L_ => ?_ | refine W.al rfl rfl rfl fun h_ X_ n_ g_ L_ => ?_ | refine W.opn (v := .ptr _) rfl rfl rfl ?_ | refine W.nil ?_ | refine W.ldk (by assumption) (by (repeat (first | assumption | exact Ext.refl _ | refine Ext.trans ?_ (by assumption))); done) rfl rfl rfl rfl rfl rfl rfl rfl ?_ | refine W.ld0 (by assumption) (by (repeat (first | assumption | exact Ext.refl _ | refine Ext.trans ?_ (by assumption))); done) rfl rfl rfl rfl rfl rfl rfl rfl ?_)
  rename_i ha Xa na ga La
  have Xh : Ext h h_ := Xa.trans X_
  refine W.call rfl rfl rfl (stop_w L ss (X.trans Xh) d.on hl ?_)
  by_cases c : 0 ≤ place l d.on
  · have e : d.num l m = ⟨true, place l d.on, d.times⟩ := if_pos c
    repeat (first | (with_reducible first | refine W.seq ?_ | refine W.region ?_ | refine SeqQ.normal ?_ | refine CallQ.val ?_) | refine W.opn rfl op_leq rfl ?_ | refine W.opn (v := .int _ _) rfl rfl rfl ?_ | refine W.opn (v := .ptr _) rfl rfl rfl ?_ | refine W.opn (v := .agg _) rfl rfl rfl ?_ | refine W.nil ?_ | refine W.ldp (by assumption) (by (repeat (first | assumption | exact Ext.refl _ | refine Ext.trans ?_ (by assumption))); done) rfl rfl rfl rfl rfl rfl rfl ?_ | refine W.cond (x := true) rfl (fun _ => ?_) (fun hc => by cases hc) | rw [decide_eq_true (by first | assumption | omega)])
    refine W.stn (cs' := (d.num l m).enc) rfl rfl rfl rfl rfl rfl g_ (by rw [e]; rfl) fun h4 n4 g4 k4 => ?_
    repeat (first | (with_reducible first | refine W.ret ?_ | refine SeqQ.normal ?_ | refine SeqQ.ret ?_) | refine W.nil ?_)
    refine BodyQ.cell1 rfl rfl g4 rfl rfl ?_
    exact q _ (Ext.store Xh n4 k4 (by omega) (by omega))
  · have e : d.num l m = ⟨false, place m d.on, d.times⟩ := if_neg c
    repeat (first | (with_reducible first | refine W.seq ?_ | refine W.region ?_ | refine W.draws ?_ | refine W.skip ?_ | refine SeqQ.normal ?_ | refine CallQ.val ?_) | refine W.opn rfl op_leq rfl ?_ | refine W.opn (v := .int _ _) rfl rfl rfl ?_ | refine W.nil ?_ | refine W.cond (x := false) rfl (fun hc => by cases hc) (fun _ => ?_) | rw [decide_eq_false (by first | assumption | omega)])
    have ds := DX.start (Xh.fr fr)
    repeat (first | refine W.dopn (v := .ptr _) rfl rfl rfl rfl ?_ | refine W.dl0 (by assumption) (by assumption) (by (repeat (first | assumption | exact Ext.refl _ | refine Ext.trans ?_ (by assumption))); done) rfl rfl rfl rfl rfl rfl rfl fun r_ h_ ds_ s_ => ?_ | refine W.dlk (by assumption) (by assumption) (by (repeat (first | assumption | exact Ext.refl _ | refine Ext.trans ?_ (by assumption))); done) rfl rfl rfl rfl rfl rfl rfl fun r_ h_ ds_ s_ => ?_)
    have X1 : Ext H h_ := (X.trans Xh).trans ds_.x
    refine W.dcallZ ds_ rfl rfl rfl rfl (place_w d.on (sl.ext X1) hm (DZ.val (Ext.refl _) fun r1 h1 ds1 s1 => ?_))
    clear ds_ ds
    repeat (first | refine W.dopn (v := .ptr _) rfl rfl rfl rfl ?_ | refine W.dopn (v := .agg _) rfl rfl rfl rfl ?_ | refine W.dlp (by assumption) (by assumption) (by (repeat (first | assumption | exact Ext.refl _ | refine Ext.trans ?_ (by assumption))); done) rfl rfl rfl rfl rfl rfl fun r_ h_ ds_ s_ => ?_)
    rw [e] at q
    refine W.dst (vs := (HazW.enc ⟨false, place m d.on, d.times⟩)) (cs' := (HazW.enc ⟨false, place m d.on, d.times⟩)) ds_.hri rfl rfl rfl rfl rfl rfl rfl ((ds_.x.old ha.next (by omega)).trans g_) rfl fun r4 h4 hr4 s4 => ?_
    have g4 : h4.get ha.next = some (.cells (HazW.enc ⟨false, place m d.on, d.times⟩) false) := by rw [s4.get, put_same]
    have nx := ds_.x.next
    have Xf : Ext h h4 := ((Xh.trans ds_.x).put (by omega) (by omega) _).trans s4.ext
    repeat (first | refine W.dnil ?_)
    repeat (first | (with_reducible first | refine W.ret ?_ | refine SeqQ.normal ?_))
    refine BodyQ.cell1 rfl rfl g4 rfl rfl ?_
    exact q _ Xf
end
end Go.Proofs.YtmgpjfnlciapkaaGreatDoor
