/- Parts of rows, in drawn regions. No condition, no program. -/
import Derived.Test.YtmgpjfnlciapkaaGreatDoorZA
import Derived.Test.YtmgpjfnlciapkaaGreatDoorYA
set_option linter.unusedVariables false
set_option linter.unusedSimpArgs false
noncomputable section
namespace Go.CM
section
variable {E : Env} {tm : Tm} {H h : Heap} {Q : R → Prop} {all rest : List Oper} {o : Oper} {bs : List Bits} {recs : List Rec} {i : Nat} {idx nr : List Nat}
theorem W.dstZ {t : TypeId} {x y : Operand} {id off : Nat} {cs cs' vs : List CV} {s : TyS} (ds : DX H h idx nr recs) (hB : H.next ≤ id) (hid : (nr.all fun j => bit j ((nth bs i).getD Bits.nil)) = true) (hgd : guardOn all tm o = some true) (hop : o.op = .store t x y) (hx : cvOf E.globs tm x = .ptr (some (id, off))) (hy : (cvOf E.globs tm y).cells = some vs)
    (hs : E.ty t = some s) (hl : Nat.beq (len vs) s.size = true) (hg : h.get id = some (.cells cs false)) (hp : setAt cs vs off = some cs')
    (w : ∀ recs' h', (∀ r ∈ recs', recIdx r ∈ i :: idx) → Same (h.put id (.cells cs' false)) h' → W E (.draw bs all rest (i + 1) recs') (putTmp tm o.dst .undef) h' Q) : W E (.draw bs all (o :: rest) i recs) tm h Q := by
  have hri : ∀ r ∈ recs, recIdx r ∈ idx := ds.hri
  have hrr : ∀ r ∈ recs, recIdx r ∈ nr ∨ ∃ i fp lo, r = .op i fp false lo lo ∧ (∀ k ∈ fp, k < H.next) ∧ ∀ k ∈ fp, k < h.next := fun r hr => by
    have hx := ds.x.next
    rcases (ds.r r hr).1 with ⟨i, fp, lo, h1, h2⟩ | ⟨i, lo, hi, h1, h2, _⟩ | ⟨i, d, d', h1, h2, _⟩
    · exact .inr ⟨i, fp, lo, h1, fun k hk => (h2 k hk).1, fun k hk => Nat.lt_of_lt_of_le (h2 k hk).1 hx⟩
    · left; rw [h1]; exact h2
    · left; rw [h1]; exact h2
  have hfp : fpAny E o tm = [id] := by
    unfold fpAny
    rw [hop]
    show idOf (cvOf E.globs tm x) = [id]
    rw [hx]; rfl
  have hwr : wrOf o.op = true := by rw [hop]; rfl
  have hget : (only h [id]).get id = some (.cells cs false) := by rw [only_get]; simpa using hg
  have ho : opAny E o tm (only h (fpAny E o tm)) = some (.undef, (only h [id]).put id (.cells cs' false)) := by
    rw [hfp]
    unfold opAny
    rw [hop]
    show oStore E t (cvOf E.globs tm x) (cvOf E.globs tm y) (only h [id]) = _
    rw [hx]
    unfold oStore CM.store storeV
    simp only [hs, hy, hl]
    unfold putCells
    simp only [hget, hp, Option.map_some, ofH]
  have hnx : ((only h [id]).put id (.cells cs' false)).next = h.next := only_next _ _
  have hsame : Same (h.put id (.cells cs' false)) (back h ((only h [id]).put id (.cells cs' false)) ([id] ++ span h.next 0)) := by
    refine ⟨by rw [back_next, hnx]; rfl, fun k => ?_⟩
    rw [back_get, Heap.get_put, Heap.get_put]
    split
    · rename_i hk
      have : k = id := by
        have hk : k ∈ [id] := hk
        simpa using hk
      subst this
      simp
    · rename_i hk
      have : ¬ id = k := by
        intro e; subst e
        exact hk (by show id ∈ [id]; simp)
      rw [if_neg this]
  have hall : okPairs ((nth bs i).getD Bits.nil) [id] true (span h.next 0) recs = true := DV.pairs (B := fun k => k < H.next) (h := h) (nr := nr) (fun b hb hm => by rw [List.mem_singleton] at hm; rw [hm] at hb; have hb : id < H.next := hb; omega) (fun k hk => (by cases hk)) (fun j hj => List.all_eq_true.1 hid _ hj) hrr
  obtain ⟨r, ⟨N, e⟩, q⟩ := w (.op i [id] true h.next h.next :: recs) _ (fun r hm => by
    rcases List.mem_cons.1 hm with rfl | hm
    · simp [recIdx]
    · exact List.mem_cons_of_mem _ (hri r hm)) hsame
  refine ⟨r, .step ⟨N, fun m hm => ?_⟩, q⟩
  show (match guardOn all tm o with
      | some true => dOp E (run E m) bs all rest o i recs tm h
      | some false => run E m (.draw bs all rest (i + 1) recs) (putTmp tm o.dst (.tup [])) h
      | none => .stop) = r
  rw [hgd]
  show dOp E (run E m) bs all rest o i recs tm h = r
  rw [dOp_any ho, hfp, hwr]
  show (match okPairs ((nth bs i).getD Bits.nil) [id] true (span h.next (((only h [id]).put id (.cells cs' false)).next - h.next)) recs with
    | true => run E m (.draw bs all rest (i + 1) (.op i [id] true h.next ((only h [id]).put id (.cells cs' false)).next :: recs)) (putTmp tm o.dst .undef) (back h ((only h [id]).put id (.cells cs' false)) ([id] ++ span h.next (((only h [id]).put id (.cells cs' false)).next - h.next)))
    | false => .stop) = r
  rw [hnx, Nat.sub_self, hall]
  exact e m hm
end
end Go.CM

namespace Go.Proofs.YtmgpjfnlciapkaaGreatDoor
open Go Go.CM Go.CM.Tt
noncomputable section
set_option maxHeartbeats 16000000
theorem int_refl (a : Int) : intEq a a = true := by rw [intEq_eq]; simp
theorem eqT_i {d : Nat} {t : Nat} {a : Int} (ht : E1.ty t = some ⟨.int .i64, 1, 8, [.int .i64 0], false, false, []⟩) : eqT E1 (d + 1) t (.int .i64 a) (.int .i64 a) = some true := by
  show (match E1.ty t with | some s => eqK E1 (eqT E1 d) s (.int .i64 a) (.int .i64 a) | none => none) = some true
  rw [ht]
  show some (intEq a a) = some true
  rw [int_refl]
theorem eqT_b {d : Nat} {t : Nat} {a : Bool} (ht : E1.ty t = some ⟨.bool, 1, 1, [.bool false], false, false, []⟩) : eqT E1 (d + 1) t (.bool a) (.bool a) = some true := by
  show (match E1.ty t with | some s => eqK E1 (eqT E1 d) s (.bool a) (.bool a) | none => none) = some true
  rw [ht]
  show some (a == a) = some true
  simp
theorem eqF {rec : TypeId → CV → CV → Option Bool} {t off : Nat} {r : List (TypeId × Nat)} {xs : List CV} {s : TyS} {v : CV} (ht : E1.ty t = some s) (hp : CM.part xs off s.size s.agg = some v) (hv : rec t v v = some true) (hr : eqFields E1 rec r xs xs = some true) : eqFields E1 rec ((t, off) :: r) xs xs = some true := by
  show (match E1.ty t with
    | none => none
    | some s => match CM.part xs off s.size s.agg with
      | none => none
      | some x => match CM.part xs off s.size s.agg with
        | none => none
        | some y => match rec t x y with
          | some true => eqFields E1 rec r xs xs
          | some false => some false
          | none => none) = some true
  rw [ht]
  simp only [hp, hv, hr]
theorem eqS {d : Nat} {t : Nat} {xs : List CV} {fs : List (TypeId × Nat)} {z b : Nat} {zz : List CV} {ms : List (String × Option (Nat × Bool))} (ht : E1.ty t = some ⟨.struct fs, z, b, zz, true, true, ms⟩) (hf : eqFields E1 (eqT E1 d) fs xs xs = some true) : eqT E1 (d + 1) t (.agg xs) (.agg xs) = some true := by
  show (match E1.ty t with | some s => eqK E1 (eqT E1 d) s (.agg xs) (.agg xs) | none => none) = some true
  rw [ht]
  exact hf
theorem ne_path {d : PathW} {h : Heap} : withH h ((eqT E1 20 54 (.agg d.enc) (.agg d.enc)).map fun b => .bool (!b)) = some (.bool false, h) := by
  rw [show eqT E1 20 54 (.agg d.enc) (.agg d.enc) = some true from eqS rfl (eqF rfl rfl (eqT_i rfl) (eqF rfl rfl (eqT_i rfl) (eqF rfl rfl (eqT_i rfl) rfl)))]; rfl
theorem ne_door {d : DoorW} {h : Heap} : withH h ((eqT E1 20 96 (.agg d.enc) (.agg d.enc)).map fun b => .bool (!b)) = some (.bool false, h) := by
  rw [show eqT E1 20 96 (.agg d.enc) (.agg d.enc) = some true from eqS rfl (eqF rfl rfl (eqT_i rfl) (eqF rfl rfl (eqT_i rfl) (eqF rfl rfl (eqT_i rfl) (eqF rfl rfl ((eqS rfl (eqF rfl rfl (eqT_i rfl) (eqF rfl rfl (eqT_i rfl) (eqF rfl rfl (eqT_i rfl) rfl))))) rfl))))]; rfl
theorem ne_trip {d : TripW} {h : Heap} : withH h ((eqT E1 20 65 (.agg d.enc) (.agg d.enc)).map fun b => .bool (!b)) = some (.bool false, h) := by
  rw [show eqT E1 20 65 (.agg d.enc) (.agg d.enc) = some true from eqS rfl (eqF rfl rfl (eqT_i rfl) (eqF rfl rfl (eqT_i rfl) (eqF rfl rfl (eqT_i rfl) (eqF rfl rfl (eqT_i rfl) rfl))))]; rfl
theorem ne_haz {d : HazW} {h : Heap} : withH h ((eqT E1 20 100 (.agg d.enc) (.agg d.enc)).map fun b => .bool (!b)) = some (.bool false, h) := by
  rw [show eqT E1 20 100 (.agg d.enc) (.agg d.enc) = some true from eqS rfl (eqF rfl rfl (eqT_b rfl) (eqF rfl rfl (eqT_i rfl) (eqF rfl rfl ((eqS rfl (eqF rfl rfl (eqT_i rfl) (eqF rfl rfl (eqT_i rfl) (eqF rfl rfl (eqT_i rfl) rfl))))) rfl)))]; rfl
theorem same_str {h : Heap} {tm : Tm} {Q : R → Prop} {v w : CV} {l : List Str} (fr : Fresh h) (s1 : Sl h v l) (s2 : Sl h w l) (hm : l.length ≤ 1099511627776) (q : ∀ h', Ext h h' → Q (.val (.bool true) h')) : W E1 (.call (.fn 41 [] []) [v, w]) tm h Q := by
  refine W.fn (s := fnOf Tryz.f41) rfl rfl rfl rfl ?_
  repeat (first | (with_reducible first | refine W.seq ?_ | refine W.block ?_ | refine W.region ?_ | refine W.skip ?_ | refine SeqQ.normal ?_) | refine W.lnS (by assumption) rfl rfl rfl rfl rfl rfl rfl rfl ?_ | refine W.opn rfl op_neq rfl ?_ | refine W.opn (v := .int _ _) rfl rfl rfl ?_ | refine W.opn (v := .bool _) rfl rfl rfl ?_ | refine W.opn rfl rfl rfl ?_ | refine W.nil ?_ | refine W.cond (x := false) rfl (fun hc => by cases hc) (fun _ => ?_) | rw [decide_eq_false (by first | assumption | omega)])
  refine W.loop (σ := Nat) (fun k tm h' => Ext h h' ∧ tm.look 0 = v ∧ tm.look 1 = w ∧ tm.look 5 = .int .i64 (k : Int) ∧ k ≤ l.length) (fun k => l.length - k) ?_ (s := 0) ⟨Ext.refl _, rfl, rfl, rfl, Nat.zero_le _⟩
  rintro k tm h' ⟨X, w0, w1, w5, hk⟩
  obtain ⟨T, rfl⟩ : ∃ T : Tm, tm = (((T.set 0 (some (v))).set 1 (some (w))).set 5 (some (.int .i64 (k : Int)))) := ⟨tm, (show tm = (((tm.set 0 (some (tm.look 0))).set 1 (some (tm.look 1))).set 5 (some (tm.look 5))) by rfl).trans (by rw [w0, w1, w5])⟩
  clear w0 w1 w5
  by_cases c1 : k < l.length
  · repeat (first | (with_reducible first | refine W.seq ?_ | refine W.block ?_ | refine W.region ?_ | refine W.draws ?_ | refine W.skip ?_ | refine SeqQ.normal ?_) | refine W.lnS (by assumption) rfl rfl rfl rfl rfl rfl rfl rfl ?_ | refine W.opn rfl op_lss rfl ?_ | refine W.opn (v := .int _ _) rfl rfl rfl ?_ | refine W.opn rfl rfl rfl ?_ | refine W.nil ?_ | refine W.cond (x := true) rfl (fun _ => ?_) (fun hc => by cases hc) | rw [decide_eq_true (by first | assumption | omega)])
    have ds := DX.start (X.fr fr)
    repeat (first | refine W.dopn (v := .int _ _) rfl rfl rfl rfl ?_ | refine W.dopn rfl rfl rfl rfl ?_)
    refine W.dixF s1 c1 rfl rfl rfl rfl rfl rfl rfl fun i1 o1 L1 => ?_
    repeat (first | refine W.dopn (v := .int _ _) rfl rfl rfl rfl ?_ | refine W.dopn rfl rfl rfl rfl ?_ | refine W.dl0 (by assumption) (by assumption) (by (repeat (first | assumption | exact Ext.refl _ | refine Ext.trans ?_ (by assumption))); done) rfl rfl rfl rfl rfl rfl rfl fun r_ h_ ds_ s_ => ?_)
    clear ds
    have X1 := ds_.x
    refine W.dixF s2 c1 rfl rfl rfl rfl rfl rfl rfl fun i2 o2 L2 => ?_
    repeat (first | refine W.dopn (v := .bool _) rfl rfl rfl rfl ?_ | refine W.dnil ?_ | refine W.dl0 (by assumption) (by assumption) (by (repeat (first | assumption | exact Ext.refl _ | refine Ext.trans ?_ (by assumption))); done) rfl rfl rfl rfl rfl rfl rfl fun r_ h_ ds_ s_ => ?_)
    have X2 := ds_.x
    rw [show bytesEq l[k] l[k] = true by rw [bytesEq_eq]; simp]
    repeat (first | (with_reducible first | refine W.region ?_ | refine W.skip ?_ | refine SeqQ.normal ?_ | refine BlockQ.normal ?_) | refine W.opn rfl (op_add (by omega) (by omega)) rfl ?_ | refine W.opn (v := .int _ _) rfl rfl rfl ?_ | refine W.nil ?_ | refine W.cond (x := false) rfl (fun hc => by cases hc) (fun _ => ?_))
    exact ⟨k + 1, lessN c1, X.trans X2, rfl, rfl, rfl, c1⟩
  · repeat (first | (with_reducible first | refine W.seq ?_ | refine W.region ?_ | refine W.exit ?_ | refine W.ret ?_ | refine SeqQ.normal ?_ | refine SeqQ.exit ?_ | refine BlockQ.exit ?_ | refine LoopQ.exit ?_) | refine W.lnS (by assumption) rfl rfl rfl rfl rfl rfl rfl rfl ?_ | refine W.opn rfl op_lss rfl ?_ | refine W.opn (v := .int _ _) rfl rfl rfl ?_ | refine W.opn (v := .bool _) rfl rfl rfl ?_ | refine W.opn rfl rfl rfl ?_ | refine W.nil ?_ | refine W.cond (x := false) rfl (fun hc => by cases hc) (fun _ => ?_) | rw [decide_eq_false (by first | assumption | omega)])
    exact q _ X
theorem same_int {h : Heap} {tm : Tm} {Q : R → Prop} {v w : CV} {l : List Int} (fr : Fresh h) (s1 : Sl h v l) (s2 : Sl h w l) (hm : l.length ≤ 1099511627776) (q : ∀ h', Ext h h' → Q (.val (.bool true) h')) : W E1 (.call (.fn 47 [] []) [v, w]) tm h Q := by
  refine W.fn (s := fnOf Tryz.f47) rfl rfl rfl rfl ?_
  repeat (first | (with_reducible first | refine W.seq ?_ | refine W.block ?_ | refine W.region ?_ | refine W.skip ?_ | refine SeqQ.normal ?_) | refine W.lnS (by assumption) rfl rfl rfl rfl rfl rfl rfl rfl ?_ | refine W.opn rfl op_neq rfl ?_ | refine W.opn (v := .int _ _) rfl rfl rfl ?_ | refine W.opn (v := .bool _) rfl rfl rfl ?_ | refine W.opn rfl rfl rfl ?_ | refine W.nil ?_ | refine W.cond (x := false) rfl (fun hc => by cases hc) (fun _ => ?_) | rw [decide_eq_false (by first | assumption | omega)])
  refine W.loop (σ := Nat) (fun k tm h' => Ext h h' ∧ tm.look 0 = v ∧ tm.look 1 = w ∧ tm.look 5 = .int .i64 (k : Int) ∧ k ≤ l.length) (fun k => l.length - k) ?_ (s := 0) ⟨Ext.refl _, rfl, rfl, rfl, Nat.zero_le _⟩
  rintro k tm h' ⟨X, w0, w1, w5, hk⟩
  obtain ⟨T, rfl⟩ : ∃ T : Tm, tm = (((T.set 0 (some (v))).set 1 (some (w))).set 5 (some (.int .i64 (k : Int)))) := ⟨tm, (show tm = (((tm.set 0 (some (tm.look 0))).set 1 (some (tm.look 1))).set 5 (some (tm.look 5))) by rfl).trans (by rw [w0, w1, w5])⟩
  clear w0 w1 w5
  by_cases c1 : k < l.length
  · repeat (first | (with_reducible first | refine W.seq ?_ | refine W.block ?_ | refine W.region ?_ | refine W.draws ?_ | refine W.skip ?_ | refine SeqQ.normal ?_) | refine W.lnS (by assumption) rfl rfl rfl rfl rfl rfl rfl rfl ?_ | refine W.opn rfl op_lss rfl ?_ | refine W.opn (v := .int _ _) rfl rfl rfl ?_ | refine W.opn rfl rfl rfl ?_ | refine W.nil ?_ | refine W.cond (x := true) rfl (fun _ => ?_) (fun hc => by cases hc) | rw [decide_eq_true (by first | assumption | omega)])
    have ds := DX.start (X.fr fr)
    repeat (first | refine W.dopn (v := .int _ _) rfl rfl rfl rfl ?_ | refine W.dopn rfl rfl rfl rfl ?_)
    refine W.dixF s1 c1 rfl rfl rfl rfl rfl rfl rfl fun i1 o1 L1 => ?_
    repeat (first | refine W.dopn (v := .int _ _) rfl rfl rfl rfl ?_ | refine W.dopn rfl rfl rfl rfl ?_ | refine W.dl0 (by assumption) (by assumption) (by (repeat (first | assumption | exact Ext.refl _ | refine Ext.trans ?_ (by assumption))); done) rfl rfl rfl rfl rfl rfl rfl fun r_ h_ ds_ s_ => ?_)
    clear ds
    have X1 := ds_.x
    refine W.dixF s2 c1 rfl rfl rfl rfl rfl rfl rfl fun i2 o2 L2 => ?_
    repeat (first | refine W.dopn rfl rfl op_neq rfl ?_ | refine W.dnil ?_ | refine W.dl0 (by assumption) (by assumption) (by (repeat (first | assumption | exact Ext.refl _ | refine Ext.trans ?_ (by assumption))); done) rfl rfl rfl rfl rfl rfl rfl fun r_ h_ ds_ s_ => ?_ | rw [decide_eq_false (by first | assumption | omega)])
    have X2 := ds_.x
    repeat (first | (with_reducible first | refine W.region ?_ | refine W.skip ?_ | refine SeqQ.normal ?_ | refine BlockQ.normal ?_) | refine W.opn rfl (op_add (by omega) (by omega)) rfl ?_ | refine W.opn (v := .int _ _) rfl rfl rfl ?_ | refine W.nil ?_ | refine W.cond (x := false) rfl (fun hc => by cases hc) (fun _ => ?_))
    exact ⟨k + 1, lessN c1, X.trans X2, rfl, rfl, rfl, c1⟩
  · repeat (first | (with_reducible first | refine W.seq ?_ | refine W.region ?_ | refine W.exit ?_ | refine W.ret ?_ | refine SeqQ.normal ?_ | refine SeqQ.exit ?_ | refine BlockQ.exit ?_ | refine LoopQ.exit ?_) | refine W.lnS (by assumption) rfl rfl rfl rfl rfl rfl rfl rfl ?_ | refine W.opn rfl op_lss rfl ?_ | refine W.opn (v := .int _ _) rfl rfl rfl ?_ | refine W.opn (v := .bool _) rfl rfl rfl ?_ | refine W.opn rfl rfl rfl ?_ | refine W.nil ?_ | refine W.cond (x := false) rfl (fun hc => by cases hc) (fun _ => ?_) | rw [decide_eq_false (by first | assumption | omega)])
    exact q _ X
theorem same_nt {h : Heap} {tm : Tm} {Q : R → Prop} {v w : CV} {l : List Int} (fr : Fresh h) (s1 : Sl h v l) (s2 : Sl h w l) (hm : l.length ≤ 1099511627776) (q : ∀ h', Ext h h' → Q (.val (.bool true) h')) : W E1 (.call (.fn 46 [] []) [v, w]) tm h Q := by
  refine W.fn (s := fnOf Tryz.f46) rfl rfl rfl rfl ?_
  repeat (first | (with_reducible first | refine W.seq ?_ | refine W.block ?_ | refine W.region ?_ | refine W.skip ?_ | refine SeqQ.normal ?_) | refine W.lnS (by assumption) rfl rfl rfl rfl rfl rfl rfl rfl ?_ | refine W.opn rfl op_neq rfl ?_ | refine W.opn (v := .int _ _) rfl rfl rfl ?_ | refine W.opn (v := .bool _) rfl rfl rfl ?_ | refine W.opn rfl rfl rfl ?_ | refine W.nil ?_ | refine W.cond (x := false) rfl (fun hc => by cases hc) (fun _ => ?_) | rw [decide_eq_false (by first | assumption | omega)])
  refine W.loop (σ := Nat) (fun k tm h' => Ext h h' ∧ tm.look 0 = v ∧ tm.look 1 = w ∧ tm.look 5 = .int .i64 (k : Int) ∧ k ≤ l.length) (fun k => l.length - k) ?_ (s := 0) ⟨Ext.refl _, rfl, rfl, rfl, Nat.zero_le _⟩
  rintro k tm h' ⟨X, w0, w1, w5, hk⟩
  obtain ⟨T, rfl⟩ : ∃ T : Tm, tm = (((T.set 0 (some (v))).set 1 (some (w))).set 5 (some (.int .i64 (k : Int)))) := ⟨tm, (show tm = (((tm.set 0 (some (tm.look 0))).set 1 (some (tm.look 1))).set 5 (some (tm.look 5))) by rfl).trans (by rw [w0, w1, w5])⟩
  clear w0 w1 w5
  by_cases c1 : k < l.length
  · repeat (first | (with_reducible first | refine W.seq ?_ | refine W.block ?_ | refine W.region ?_ | refine W.draws ?_ | refine W.skip ?_ | refine SeqQ.normal ?_) | refine W.lnS (by assumption) rfl rfl rfl rfl rfl rfl rfl rfl ?_ | refine W.opn rfl op_lss rfl ?_ | refine W.opn (v := .int _ _) rfl rfl rfl ?_ | refine W.opn rfl rfl rfl ?_ | refine W.nil ?_ | refine W.cond (x := true) rfl (fun _ => ?_) (fun hc => by cases hc) | rw [decide_eq_true (by first | assumption | omega)])
    have ds := DX.start (X.fr fr)
    repeat (first | refine W.dopn (v := .int _ _) rfl rfl rfl rfl ?_ | refine W.dopn rfl rfl rfl rfl ?_)
    refine W.dixF s1 c1 rfl rfl rfl rfl rfl rfl rfl fun i1 o1 L1 => ?_
    repeat (first | refine W.dopn (v := .int _ _) rfl rfl rfl rfl ?_ | refine W.dopn rfl rfl rfl rfl ?_ | refine W.dl0 (by assumption) (by assumption) (by (repeat (first | assumption | exact Ext.refl _ | refine Ext.trans ?_ (by assumption))); done) rfl rfl rfl rfl rfl rfl rfl fun r_ h_ ds_ s_ => ?_)
    clear ds
    have X1 := ds_.x
    refine W.dixF s2 c1 rfl rfl rfl rfl rfl rfl rfl fun i2 o2 L2 => ?_
    repeat (first | refine W.dopn rfl rfl op_neq rfl ?_ | refine W.dnil ?_ | refine W.dl0 (by assumption) (by assumption) (by (repeat (first | assumption | exact Ext.refl _ | refine Ext.trans ?_ (by assumption))); done) rfl rfl rfl rfl rfl rfl rfl fun r_ h_ ds_ s_ => ?_ | rw [decide_eq_false (by first | assumption | omega)])
    have X2 := ds_.x
    repeat (first | (with_reducible first | refine W.region ?_ | refine W.skip ?_ | refine SeqQ.normal ?_ | refine BlockQ.normal ?_) | refine W.opn rfl (op_add (by omega) (by omega)) rfl ?_ | refine W.opn (v := .int _ _) rfl rfl rfl ?_ | refine W.nil ?_ | refine W.cond (x := false) rfl (fun hc => by cases hc) (fun _ => ?_))
    exact ⟨k + 1, lessN c1, X.trans X2, rfl, rfl, rfl, c1⟩
  · repeat (first | (with_reducible first | refine W.seq ?_ | refine W.region ?_ | refine W.exit ?_ | refine W.ret ?_ | refine SeqQ.normal ?_ | refine SeqQ.exit ?_ | refine BlockQ.exit ?_ | refine LoopQ.exit ?_) | refine W.lnS (by assumption) rfl rfl rfl rfl rfl rfl rfl rfl ?_ | refine W.opn rfl op_lss rfl ?_ | refine W.opn (v := .int _ _) rfl rfl rfl ?_ | refine W.opn (v := .bool _) rfl rfl rfl ?_ | refine W.opn rfl rfl rfl ?_ | refine W.nil ?_ | refine W.cond (x := false) rfl (fun hc => by cases hc) (fun _ => ?_) | rw [decide_eq_false (by first | assumption | omega)])
    exact q _ X
theorem same_path {h : Heap} {tm : Tm} {Q : R → Prop} {v w : CV} {l : List PathW} (fr : Fresh h) (s1 : Sl h v l) (s2 : Sl h w l) (hm : l.length ≤ 1099511627776) (q : ∀ h', Ext h h' → Q (.val (.bool true) h')) : W E1 (.call (.fn 42 [] []) [v, w]) tm h Q := by
  refine W.fn (s := fnOf Tryz.f42) rfl rfl rfl rfl ?_
  repeat (first | (with_reducible first | refine W.seq ?_ | refine W.block ?_ | refine W.region ?_ | refine W.skip ?_ | refine SeqQ.normal ?_) | refine W.lnS (by assumption) rfl rfl rfl rfl rfl rfl rfl rfl ?_ | refine W.opn rfl op_neq rfl ?_ | refine W.opn (v := .int _ _) rfl rfl rfl ?_ | refine W.opn (v := .bool _) rfl rfl rfl ?_ | refine W.opn rfl rfl rfl ?_ | refine W.nil ?_ | refine W.cond (x := false) rfl (fun hc => by cases hc) (fun _ => ?_) | rw [decide_eq_false (by first | assumption | omega)])
  refine W.loop (σ := Nat) (fun k tm h' => Ext h h' ∧ tm.look 0 = v ∧ tm.look 1 = w ∧ tm.look 5 = .int .i64 (k : Int) ∧ k ≤ l.length) (fun k => l.length - k) ?_ (s := 0) ⟨Ext.refl _, rfl, rfl, rfl, Nat.zero_le _⟩
  rintro k tm h' ⟨X, w0, w1, w5, hk⟩
  obtain ⟨T, rfl⟩ : ∃ T : Tm, tm = (((T.set 0 (some (v))).set 1 (some (w))).set 5 (some (.int .i64 (k : Int)))) := ⟨tm, (show tm = (((tm.set 0 (some (tm.look 0))).set 1 (some (tm.look 1))).set 5 (some (tm.look 5))) by rfl).trans (by rw [w0, w1, w5])⟩
  clear w0 w1 w5
  by_cases c1 : k < l.length
  · repeat (first | (with_reducible first | refine W.seq ?_ | refine W.block ?_ | refine W.region ?_ | refine W.draws ?_ | refine W.skip ?_ | refine SeqQ.normal ?_) | refine W.lnS (by assumption) rfl rfl rfl rfl rfl rfl rfl rfl ?_ | refine W.opn rfl op_lss rfl ?_ | refine W.opn (v := .int _ _) rfl rfl rfl ?_ | refine W.opn rfl rfl rfl ?_ | refine W.nil ?_ | refine W.cond (x := true) rfl (fun _ => ?_) (fun hc => by cases hc) | rw [decide_eq_true (by first | assumption | omega)])
    have ds := DX.start (X.fr fr)
    repeat (first | refine W.dopn (v := .int _ _) rfl rfl rfl rfl ?_ | refine W.dopn rfl rfl rfl rfl ?_)
    refine W.dixF s1 c1 rfl rfl rfl rfl rfl rfl rfl fun i1 o1 L1 => ?_
    repeat (first | refine W.dopn (v := .int _ _) rfl rfl rfl rfl ?_ | refine W.dopn rfl rfl rfl rfl ?_ | refine W.dlw (by assumption) (by assumption) (by (repeat (first | assumption | exact Ext.refl _ | refine Ext.trans ?_ (by assumption))); done) rfl rfl rfl rfl (by first | rfl | assumption) rfl fun r_ h_ ds_ s_ => ?_)
    clear ds
    have X1 := ds_.x
    refine W.dixF s2 c1 rfl rfl rfl rfl rfl rfl rfl fun i2 o2 L2 => ?_
    repeat (first | refine W.dlw (by assumption) (by assumption) (by (repeat (first | assumption | exact Ext.refl _ | refine Ext.trans ?_ (by assumption))); done) rfl rfl rfl rfl (by first | rfl | assumption) rfl fun r_ h_ ds_ s_ => ?_)
    have X2 := ds_.x
    refine W.dopn rfl rfl (ne_path (d := l[k])) rfl ?_
    repeat (first | refine W.dnil ?_)
    repeat (first | (with_reducible first | refine W.region ?_ | refine W.skip ?_ | refine SeqQ.normal ?_ | refine BlockQ.normal ?_) | refine W.opn rfl (op_add (by omega) (by omega)) rfl ?_ | refine W.opn (v := .int _ _) rfl rfl rfl ?_ | refine W.nil ?_ | refine W.cond (x := false) rfl (fun hc => by cases hc) (fun _ => ?_))
    exact ⟨k + 1, lessN c1, X.trans X2, rfl, rfl, rfl, c1⟩
  · repeat (first | (with_reducible first | refine W.seq ?_ | refine W.region ?_ | refine W.exit ?_ | refine W.ret ?_ | refine SeqQ.normal ?_ | refine SeqQ.exit ?_ | refine BlockQ.exit ?_ | refine LoopQ.exit ?_) | refine W.lnS (by assumption) rfl rfl rfl rfl rfl rfl rfl rfl ?_ | refine W.opn rfl op_lss rfl ?_ | refine W.opn (v := .int _ _) rfl rfl rfl ?_ | refine W.opn (v := .bool _) rfl rfl rfl ?_ | refine W.opn rfl rfl rfl ?_ | refine W.nil ?_ | refine W.cond (x := false) rfl (fun hc => by cases hc) (fun _ => ?_) | rw [decide_eq_false (by first | assumption | omega)])
    exact q _ X
theorem same_door {h : Heap} {tm : Tm} {Q : R → Prop} {v w : CV} {l : List DoorW} (fr : Fresh h) (s1 : Sl h v l) (s2 : Sl h w l) (hm : l.length ≤ 1099511627776) (q : ∀ h', Ext h h' → Q (.val (.bool true) h')) : W E1 (.call (.fn 43 [] []) [v, w]) tm h Q := by
  refine W.fn (s := fnOf Tryz.f43) rfl rfl rfl rfl ?_
  repeat (first | (with_reducible first | refine W.seq ?_ | refine W.block ?_ | refine W.region ?_ | refine W.skip ?_ | refine SeqQ.normal ?_) | refine W.lnS (by assumption) rfl rfl rfl rfl rfl rfl rfl rfl ?_ | refine W.opn rfl op_neq rfl ?_ | refine W.opn (v := .int _ _) rfl rfl rfl ?_ | refine W.opn (v := .bool _) rfl rfl rfl ?_ | refine W.opn rfl rfl rfl ?_ | refine W.nil ?_ | refine W.cond (x := false) rfl (fun hc => by cases hc) (fun _ => ?_) | rw [decide_eq_false (by first | assumption | omega)])
  refine W.loop (σ := Nat) (fun k tm h' => Ext h h' ∧ tm.look 0 = v ∧ tm.look 1 = w ∧ tm.look 5 = .int .i64 (k : Int) ∧ k ≤ l.length) (fun k => l.length - k) ?_ (s := 0) ⟨Ext.refl _, rfl, rfl, rfl, Nat.zero_le _⟩
  rintro k tm h' ⟨X, w0, w1, w5, hk⟩
  obtain ⟨T, rfl⟩ : ∃ T : Tm, tm = (((T.set 0 (some (v))).set 1 (some (w))).set 5 (some (.int .i64 (k : Int)))) := ⟨tm, (show tm = (((tm.set 0 (some (tm.look 0))).set 1 (some (tm.look 1))).set 5 (some (tm.look 5))) by rfl).trans (by rw [w0, w1, w5])⟩
  clear w0 w1 w5
  by_cases c1 : k < l.length
  · repeat (first | (with_reducible first | refine W.seq ?_ | refine W.block ?_ | refine W.region ?_ | refine W.draws ?_ | refine W.skip ?_ | refine SeqQ.normal ?_) | refine W.lnS (by assumption) rfl rfl rfl rfl rfl rfl rfl rfl ?_ | refine W.opn rfl op_lss rfl ?_ | refine W.opn (v := .int _ _) rfl rfl rfl ?_ | refine W.opn rfl rfl rfl ?_ | refine W.nil ?_ | refine W.cond (x := true) rfl (fun _ => ?_) (fun hc => by cases hc) | rw [decide_eq_true (by first | assumption | omega)])
    have ds := DX.start (X.fr fr)
    repeat (first | refine W.dopn (v := .int _ _) rfl rfl rfl rfl ?_ | refine W.dopn rfl rfl rfl rfl ?_)
    refine W.dixF s1 c1 rfl rfl rfl rfl rfl rfl rfl fun i1 o1 L1 => ?_
    repeat (first | refine W.dopn (v := .int _ _) rfl rfl rfl rfl ?_ | refine W.dopn rfl rfl rfl rfl ?_ | refine W.dlw (by assumption) (by assumption) (by (repeat (first | assumption | exact Ext.refl _ | refine Ext.trans ?_ (by assumption))); done) rfl rfl rfl rfl (by first | rfl | assumption) rfl fun r_ h_ ds_ s_ => ?_)
    clear ds
    have X1 := ds_.x
    refine W.dixF s2 c1 rfl rfl rfl rfl rfl rfl rfl fun i2 o2 L2 => ?_
    repeat (first | refine W.dlw (by assumption) (by assumption) (by (repeat (first | assumption | exact Ext.refl _ | refine Ext.trans ?_ (by assumption))); done) rfl rfl rfl rfl (by first | rfl | assumption) rfl fun r_ h_ ds_ s_ => ?_)
    have X2 := ds_.x
    refine W.dopn rfl rfl (ne_door (d := l[k])) rfl ?_
    repeat (first | refine W.dnil ?_)
    repeat (first | (with_reducible first | refine W.region ?_ | refine W.skip ?_ | refine SeqQ.normal ?_ | refine BlockQ.normal ?_) | refine W.opn rfl (op_add (by omega) (by omega)) rfl ?_ | refine W.opn (v := .int _ _) rfl rfl rfl ?_ | refine W.nil ?_ | refine W.cond (x := false) rfl (fun hc => by cases hc) (fun _ => ?_))
    exact ⟨k + 1, lessN c1, X.trans X2, rfl, rfl, rfl, c1⟩
  · repeat (first | (with_reducible first | refine W.seq ?_ | refine W.region ?_ | refine W.exit ?_ | refine W.ret ?_ | refine SeqQ.normal ?_ | refine SeqQ.exit ?_ | refine BlockQ.exit ?_ | refine LoopQ.exit ?_) | refine W.lnS (by assumption) rfl rfl rfl rfl rfl rfl rfl rfl ?_ | refine W.opn rfl op_lss rfl ?_ | refine W.opn (v := .int _ _) rfl rfl rfl ?_ | refine W.opn (v := .bool _) rfl rfl rfl ?_ | refine W.opn rfl rfl rfl ?_ | refine W.nil ?_ | refine W.cond (x := false) rfl (fun hc => by cases hc) (fun _ => ?_) | rw [decide_eq_false (by first | assumption | omega)])
    exact q _ X
theorem same_trip {h : Heap} {tm : Tm} {Q : R → Prop} {v w : CV} {l : List TripW} (fr : Fresh h) (s1 : Sl h v l) (s2 : Sl h w l) (hm : l.length ≤ 1099511627776) (q : ∀ h', Ext h h' → Q (.val (.bool true) h')) : W E1 (.call (.fn 44 [] []) [v, w]) tm h Q := by
  refine W.fn (s := fnOf Tryz.f44) rfl rfl rfl rfl ?_
  repeat (first | (with_reducible first | refine W.seq ?_ | refine W.block ?_ | refine W.region ?_ | refine W.skip ?_ | refine SeqQ.normal ?_) | refine W.lnS (by assumption) rfl rfl rfl rfl rfl rfl rfl rfl ?_ | refine W.opn rfl op_neq rfl ?_ | refine W.opn (v := .int _ _) rfl rfl rfl ?_ | refine W.opn (v := .bool _) rfl rfl rfl ?_ | refine W.opn rfl rfl rfl ?_ | refine W.nil ?_ | refine W.cond (x := false) rfl (fun hc => by cases hc) (fun _ => ?_) | rw [decide_eq_false (by first | assumption | omega)])
  refine W.loop (σ := Nat) (fun k tm h' => Ext h h' ∧ tm.look 0 = v ∧ tm.look 1 = w ∧ tm.look 5 = .int .i64 (k : Int) ∧ k ≤ l.length) (fun k => l.length - k) ?_ (s := 0) ⟨Ext.refl _, rfl, rfl, rfl, Nat.zero_le _⟩
  rintro k tm h' ⟨X, w0, w1, w5, hk⟩
  obtain ⟨T, rfl⟩ : ∃ T : Tm, tm = (((T.set 0 (some (v))).set 1 (some (w))).set 5 (some (.int .i64 (k : Int)))) := ⟨tm, (show tm = (((tm.set 0 (some (tm.look 0))).set 1 (some (tm.look 1))).set 5 (some (tm.look 5))) by rfl).trans (by rw [w0, w1, w5])⟩
  clear w0 w1 w5
  by_cases c1 : k < l.length
  · repeat (first | (with_reducible first | refine W.seq ?_ | refine W.block ?_ | refine W.region ?_ | refine W.draws ?_ | refine W.skip ?_ | refine SeqQ.normal ?_) | refine W.lnS (by assumption) rfl rfl rfl rfl rfl rfl rfl rfl ?_ | refine W.opn rfl op_lss rfl ?_ | refine W.opn (v := .int _ _) rfl rfl rfl ?_ | refine W.opn rfl rfl rfl ?_ | refine W.nil ?_ | refine W.cond (x := true) rfl (fun _ => ?_) (fun hc => by cases hc) | rw [decide_eq_true (by first | assumption | omega)])
    have ds := DX.start (X.fr fr)
    repeat (first | refine W.dopn (v := .int _ _) rfl rfl rfl rfl ?_ | refine W.dopn rfl rfl rfl rfl ?_)
    refine W.dixF s1 c1 rfl rfl rfl rfl rfl rfl rfl fun i1 o1 L1 => ?_
    repeat (first | refine W.dopn (v := .int _ _) rfl rfl rfl rfl ?_ | refine W.dopn rfl rfl rfl rfl ?_ | refine W.dlw (by assumption) (by assumption) (by (repeat (first | assumption | exact Ext.refl _ | refine Ext.trans ?_ (by assumption))); done) rfl rfl rfl rfl (by first | rfl | assumption) rfl fun r_ h_ ds_ s_ => ?_)
    clear ds
    have X1 := ds_.x
    refine W.dixF s2 c1 rfl rfl rfl rfl rfl rfl rfl fun i2 o2 L2 => ?_
    repeat (first | refine W.dlw (by assumption) (by assumption) (by (repeat (first | assumption | exact Ext.refl _ | refine Ext.trans ?_ (by assumption))); done) rfl rfl rfl rfl (by first | rfl | assumption) rfl fun r_ h_ ds_ s_ => ?_)
    have X2 := ds_.x
    refine W.dopn rfl rfl (ne_trip (d := l[k])) rfl ?_
    repeat (first | refine W.dnil ?_)
    repeat (first | (with_reducible first | refine W.region ?_ | refine W.skip ?_ | refine SeqQ.normal ?_ | refine BlockQ.normal ?_) | refine W.opn rfl (op_add (by omega) (by omega)) rfl ?_ | refine W.opn (v := .int _ _) rfl rfl rfl ?_ | refine W.nil ?_ | refine W.cond (x := false) rfl (fun hc => by cases hc) (fun _ => ?_))
    exact ⟨k + 1, lessN c1, X.trans X2, rfl, rfl, rfl, c1⟩
  · repeat (first | (with_reducible first | refine W.seq ?_ | refine W.region ?_ | refine W.exit ?_ | refine W.ret ?_ | refine SeqQ.normal ?_ | refine SeqQ.exit ?_ | refine BlockQ.exit ?_ | refine LoopQ.exit ?_) | refine W.lnS (by assumption) rfl rfl rfl rfl rfl rfl rfl rfl ?_ | refine W.opn rfl op_lss rfl ?_ | refine W.opn (v := .int _ _) rfl rfl rfl ?_ | refine W.opn (v := .bool _) rfl rfl rfl ?_ | refine W.opn rfl rfl rfl ?_ | refine W.nil ?_ | refine W.cond (x := false) rfl (fun hc => by cases hc) (fun _ => ?_) | rw [decide_eq_false (by first | assumption | omega)])
    exact q _ X
theorem same_haz {h : Heap} {tm : Tm} {Q : R → Prop} {v w : CV} {l : List HazW} (fr : Fresh h) (s1 : Sl h v l) (s2 : Sl h w l) (hm : l.length ≤ 1099511627776) (q : ∀ h', Ext h h' → Q (.val (.bool true) h')) : W E1 (.call (.fn 45 [] []) [v, w]) tm h Q := by
  refine W.fn (s := fnOf Tryz.f45) rfl rfl rfl rfl ?_
  repeat (first | (with_reducible first | refine W.seq ?_ | refine W.block ?_ | refine W.region ?_ | refine W.skip ?_ | refine SeqQ.normal ?_) | refine W.lnS (by assumption) rfl rfl rfl rfl rfl rfl rfl rfl ?_ | refine W.opn rfl op_neq rfl ?_ | refine W.opn (v := .int _ _) rfl rfl rfl ?_ | refine W.opn (v := .bool _) rfl rfl rfl ?_ | refine W.opn rfl rfl rfl ?_ | refine W.nil ?_ | refine W.cond (x := false) rfl (fun hc => by cases hc) (fun _ => ?_) | rw [decide_eq_false (by first | assumption | omega)])
  refine W.loop (σ := Nat) (fun k tm h' => Ext h h' ∧ tm.look 0 = v ∧ tm.look 1 = w ∧ tm.look 5 = .int .i64 (k : Int) ∧ k ≤ l.length) (fun k => l.length - k) ?_ (s := 0) ⟨Ext.refl _, rfl, rfl, rfl, Nat.zero_le _⟩
  rintro k tm h' ⟨X, w0, w1, w5, hk⟩
  obtain ⟨T, rfl⟩ : ∃ T : Tm, tm = (((T.set 0 (some (v))).set 1 (some (w))).set 5 (some (.int .i64 (k : Int)))) := ⟨tm, (show tm = (((tm.set 0 (some (tm.look 0))).set 1 (some (tm.look 1))).set 5 (some (tm.look 5))) by rfl).trans (by rw [w0, w1, w5])⟩
  clear w0 w1 w5
  by_cases c1 : k < l.length
  · repeat (first | (with_reducible first | refine W.seq ?_ | refine W.block ?_ | refine W.region ?_ | refine W.draws ?_ | refine W.skip ?_ | refine SeqQ.normal ?_) | refine W.lnS (by assumption) rfl rfl rfl rfl rfl rfl rfl rfl ?_ | refine W.opn rfl op_lss rfl ?_ | refine W.opn (v := .int _ _) rfl rfl rfl ?_ | refine W.opn rfl rfl rfl ?_ | refine W.nil ?_ | refine W.cond (x := true) rfl (fun _ => ?_) (fun hc => by cases hc) | rw [decide_eq_true (by first | assumption | omega)])
    have ds := DX.start (X.fr fr)
    repeat (first | refine W.dopn (v := .int _ _) rfl rfl rfl rfl ?_ | refine W.dopn rfl rfl rfl rfl ?_)
    refine W.dixF s1 c1 rfl rfl rfl rfl rfl rfl rfl fun i1 o1 L1 => ?_
    repeat (first | refine W.dopn (v := .int _ _) rfl rfl rfl rfl ?_ | refine W.dopn rfl rfl rfl rfl ?_ | refine W.dlw (by assumption) (by assumption) (by (repeat (first | assumption | exact Ext.refl _ | refine Ext.trans ?_ (by assumption))); done) rfl rfl rfl rfl (by first | rfl | assumption) rfl fun r_ h_ ds_ s_ => ?_)
    clear ds
    have X1 := ds_.x
    refine W.dixF s2 c1 rfl rfl rfl rfl rfl rfl rfl fun i2 o2 L2 => ?_
    repeat (first | refine W.dlw (by assumption) (by assumption) (by (repeat (first | assumption | exact Ext.refl _ | refine Ext.trans ?_ (by assumption))); done) rfl rfl rfl rfl (by first | rfl | assumption) rfl fun r_ h_ ds_ s_ => ?_)
    have X2 := ds_.x
    refine W.dopn rfl rfl (ne_haz (d := l[k])) rfl ?_
    repeat (first | refine W.dnil ?_)
    repeat (first | (with_reducible first | refine W.region ?_ | refine W.skip ?_ | refine SeqQ.normal ?_ | refine BlockQ.normal ?_) | refine W.opn rfl (op_add (by omega) (by omega)) rfl ?_ | refine W.opn (v := .int _ _) rfl rfl rfl ?_ | refine W.nil ?_ | refine W.cond (x := false) rfl (fun hc => by cases hc) (fun _ => ?_))
    exact ⟨k + 1, lessN c1, X.trans X2, rfl, rfl, rfl, c1⟩
  · repeat (first | (with_reducible first | refine W.seq ?_ | refine W.region ?_ | refine W.exit ?_ | refine W.ret ?_ | refine SeqQ.normal ?_ | refine SeqQ.exit ?_ | refine BlockQ.exit ?_ | refine LoopQ.exit ?_) | refine W.lnS (by assumption) rfl rfl rfl rfl rfl rfl rfl rfl ?_ | refine W.opn rfl op_lss rfl ?_ | refine W.opn (v := .int _ _) rfl rfl rfl ?_ | refine W.opn (v := .bool _) rfl rfl rfl ?_ | refine W.opn rfl rfl rfl ?_ | refine W.nil ?_ | refine W.cond (x := false) rfl (fun hc => by cases hc) (fun _ => ?_) | rw [decide_eq_false (by first | assumption | omega)])
    exact q _ X
end
end Go.Proofs.YtmgpjfnlciapkaaGreatDoor
