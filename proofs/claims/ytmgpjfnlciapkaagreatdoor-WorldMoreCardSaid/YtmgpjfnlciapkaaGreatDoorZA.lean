/- What holds a sheet together, in plain words: without some of its last things it does so still, with one told twice it does not. No condition, no program. -/
import Derived.Test.YtmgpjfnlciapkaaGreatDoorXQ1
import Derived.Test.YtmgpjfnlciapkaaGreatDoorXY
set_option linter.unusedVariables false
set_option linter.unusedSimpArgs false
noncomputable section
namespace Go.CM.Tt
def SheetD.Ok (x : SheetD) : Prop := x.few ∧ (∀ s ∈ x.all, NameOk s) ∧ (∀ n ∈ x.nums, TickOk n) ∧ ∀ r ∈ x.routes, r.ok
theorem nn {p : Prop} (h : p) : ¬ ¬ p := fun g => g h
theorem SheetD.err_zero {x : SheetD} : x.err = 0 ↔ x.Ok := by
  unfold SheetD.err SheetD.Ok
  by_cases c1 : x.few
  · by_cases c2 : ∀ s ∈ x.all, NameOk s
    · by_cases c3 : ∀ n ∈ x.nums, TickOk n
      · by_cases c4 : ∀ r ∈ x.routes, r.ok
        · rw [if_neg (nn c1), if_neg (nn c2), if_neg (nn c3), if_neg (nn c4)]
          exact Iff.intro (fun _ => ⟨c1, c2, c3, c4⟩) (fun _ => rfl)
        · rw [if_neg (nn c1), if_neg (nn c2), if_neg (nn c3), if_pos c4]
          exact Iff.intro (fun h => by cases h) (fun h => absurd h.2.2.2 c4)
      · rw [if_neg (nn c1), if_neg (nn c2), if_pos c3]
        exact Iff.intro (fun h => by cases h) (fun h => absurd h.2.2.1 c3)
    · rw [if_neg (nn c1), if_pos c2]
      exact Iff.intro (fun h => by cases h) (fun h => absurd h.2.1 c2)
  · rw [if_pos c1]
    exact Iff.intro (fun h => by cases h) (fun h => absurd h.1 c1)
theorem dupIn_nodup : ∀ {l seen : List Str} {i : Nat}, dupIn seen l i = none → seen.Nodup → (seen ++ l).Nodup
  | [], seen, _, _, h => by simpa using h
  | a :: l, seen, i, h, hs => by
    unfold dupIn at h
    by_cases c : a ∈ seen
    · rw [if_pos c] at h; cases h
    · rw [if_neg c] at h
      have := dupIn_nodup h (List.nodup_append.2 ⟨hs, by simp, fun x hx y hy e => by
        rw [List.mem_singleton] at hy
        exact c (by rw [← hy, ← e]; exact hx)⟩)
      simpa [List.append_assoc] using this
theorem dups_nodup : ∀ {L : List (List Str)} {seen : List Str} {k : Int}, dups seen L k = none → seen.Nodup → (seen ++ L.flatten).Nodup
  | [], seen, _, _, h => by simpa using h
  | l :: L, seen, k, h, hs => by
    unfold dups at h
    cases c : dupIn seen l 0 with
    | some i => rw [c] at h; cases h
    | none =>
      rw [c] at h
      have := dups_nodup h (dupIn_nodup c hs)
      simpa [List.append_assoc] using this
theorem clean_nodup {seen p r : List Str} (h : (seen ++ p).Nodup) : Clean seen (p ++ r) p.length := by
  intro m a hm ha hin
  rw [List.getElem?_append_left hm] at ha
  rw [List.take_append_of_le_length (by omega)] at hin
  have e : seen ++ p = (seen ++ p.take m) ++ p.drop m := by rw [List.append_assoc, List.take_append_drop]
  rw [e] at h
  have hd : a ∈ p.drop m := by
    have e2 : (p.drop m)[0]? = some a := by rw [List.getElem?_drop, Nat.add_zero]; exact ha
    exact List.mem_of_getElem? e2
  exact (List.nodup_append.1 h).2.2 a hin a hd rfl
theorem flatten_take {L : List (List Str)} {n : Nat} {l : List Str} (h : L.flatten.Nodup) (hl : L[n]? = some l) : ((L.take n).flatten ++ l).Nodup := by
  have hlt := (List.getElem?_eq_some_iff.1 hl).1
  have e : L = L.take n ++ (l :: L.drop (n + 1)) := by
    conv => lhs; rw [← List.take_append_drop n L, List.drop_eq_getElem_cons hlt]
    rw [List.getElem?_eq_getElem hlt] at hl
    rw [Option.some.inj hl]
  rw [e, List.flatten_append, List.flatten_cons, ← List.append_assoc] at h
  exact (List.nodup_append.1 h).1
theorem dups_of_nodup {L : List (List Str)} {k : Int} (h : L.flatten.Nodup) : dups [] L k = none :=
  dups_no fun n l hl => by
    have := clean_nodup (r := []) (flatten_take h hl)
    rw [List.append_nil] at this
    rw [List.nil_append]
    exact this
theorem dups_err : ∀ {L : List (List Str)} {seen : List Str} {k : Int} {d : WrongD}, dups seen L k = some d → d.err = 6
  | [], _, _, _, h => by cases h
  | l :: L, seen, k, d, h => by
    unfold dups at h
    cases c : dupIn seen l 0 with
    | some i => rw [c] at h; cases h; rfl
    | none => rw [c] at h; exact dups_err h
theorem firstErr_err {α : Type} {f : α → Int} : ∀ {l : List α} {i : Nat} {e : Int} {j : Nat}, firstErr f l i = some (e, j) → e ≠ 0
  | [], _, _, _, h => by cases h
  | a :: l, i, e, j, h => by
    unfold firstErr at h
    by_cases c : f a = 0
    · rw [if_pos c] at h; exact firstErr_err h
    · rw [if_neg c] at h; cases h; exact c
structure SheetD.Fit (x : SheetD) : Prop where
  ok : x.Ok
  nd : x.names.lists.flatten.Nodup
  paths : ∀ p ∈ x.paths, (p.num x.stops).err = 0
  doors : ∀ p ∈ x.doors, (p.num x.stops).err x.hz = 0
  routes : ∀ p ∈ x.routes, (p.num x.stops).err = 0
  trips : ∀ p ∈ x.trips, (p.num x.names.routes).err = 0
  hazards : ∀ p ∈ x.hazards, (p.num x.stops x.names.paths).err x.hz = 0
theorem SheetD.Fit.wrong {x : SheetD} (f : x.Fit) : x.num.wrong = Wrong0 := by
  have hm : ∀ {α β : Type} {g : α → β} {e : β → Int} {l : List α}, (∀ p ∈ l, e (g p) = 0) → ∀ a ∈ l.map g, e a = 0 := fun h a ha => by
    obtain ⟨p, hp, rfl⟩ := List.mem_map.1 ha
    exact h p hp
  unfold WorldD.wrong
  rw [show dups [] x.num.names.lists 0 = none from dups_of_nodup f.nd]
  show (atKind 2 (firstErr PathW.err (x.paths.map _) 0)).getD ((atKind 3 (firstErr (DoorW.err x.hz) (x.doors.map _) 0)).getD ((atKind 4 (firstErr RouteW.err (x.routes.map _) 0)).getD ((atKind 5 (firstErr TripW.err (x.trips.map _) 0)).getD ((atKind 6 (firstErr (HazW.err x.hz) (x.hazards.map _) 0)).getD Wrong0)))) = Wrong0
  rw [firstErr_no (hm (e := PathW.err) f.paths), firstErr_no (hm (e := DoorW.err x.hz) f.doors), firstErr_no (hm (e := RouteW.err) f.routes), firstErr_no (hm (e := TripW.err) f.trips), firstErr_no (hm (e := HazW.err x.hz) f.hazards)]
  rfl
theorem SheetD.Fit.make {x : SheetD} (f : x.Fit) : x.make = (x.num, Wrong0) := by
  unfold SheetD.make
  rw [if_pos (SheetD.err_zero.2 f.ok), f.wrong, if_pos (show Wrong0.err = 0 from rfl)]
theorem fit_of_make {x : SheetD} (h : x.make.2.err = 0) : x.Fit := by
  unfold SheetD.make at h
  by_cases c : x.err = 0
  · rw [if_pos c] at h
    have hw : x.num.wrong.err = 0 := by
      by_cases d : x.num.wrong.err = 0
      · exact d
      · rw [if_neg d] at h; exact h
    have ok := SheetD.err_zero.1 c
    unfold WorldD.wrong at hw
    cases h0 : dups [] x.num.names.lists 0 with
    | some d => rw [h0] at hw; have := dups_err h0; rw [Option.getD_some] at hw; omega
    | none =>
    have key : ∀ {α : Type} {g : α → Int} {l : List α} {k : Int} {w : WrongD}, ((atKind k (firstErr g l 0)).getD w).err = 0 → (∀ a ∈ l, g a = 0) ∧ w.err = 0 := fun {α g l k w} h => by
      cases e : firstErr g l 0 with
      | some ej =>
        obtain ⟨e1, j1⟩ := ej
        rw [e] at h
        exact absurd h (firstErr_err e)
      | none => rw [e] at h; exact ⟨firstErr_none e, h⟩
    rw [h0, Option.getD_none] at hw
    obtain ⟨k2, hw⟩ := key hw
    obtain ⟨k3, hw⟩ := key hw
    obtain ⟨k4, hw⟩ := key hw
    obtain ⟨k5, hw⟩ := key hw
    obtain ⟨k6, hw⟩ := key hw
    have hnd := dups_nodup h0 (by simp)
    rw [List.nil_append] at hnd
    exact ⟨ok, hnd, fun p hp => k2 _ (List.mem_map.2 ⟨p, hp, rfl⟩), fun p hp => k3 _ (List.mem_map.2 ⟨p, hp, rfl⟩), fun p hp => k4 _ (List.mem_map.2 ⟨p, hp, rfl⟩), fun p hp => k5 _ (List.mem_map.2 ⟨p, hp, rfl⟩), fun p hp => k6 _ (List.mem_map.2 ⟨p, hp, rfl⟩)⟩
  · rw [if_neg c] at h
    exact absurd h c
def cut {α : Type} (l : List α) (k : Nat) : List α := l.take k ++ l.drop (k + 1)
theorem SheetD.Ok.makeDup {x : SheetD} (o : x.Ok) {d : WrongD} (h : dups [] x.names.lists 0 = some d) : x.make.2 = d := by
  have e : x.num.wrong = d := by
    unfold WorldD.wrong
    rw [show dups [] x.num.names.lists 0 = some d from h, Option.getD_some]
  unfold SheetD.make
  rw [if_pos (SheetD.err_zero.2 o), e, if_neg (by rw [dups_err h]; decide)]
theorem SheetD.Ok.numNames {x : SheetD} (o : x.Ok) : ∀ l ∈ x.num.names.lists, ∀ s ∈ l, NameOk s := by
  intro l hl s hs
  refine o.2.1 s ?_
  unfold SheetD.all
  simp only [List.mem_append]
  have hm : ∀ {α : Type} {g : α → Str} {f : α → List Str} {l : List α}, (∀ a, g a ∈ f a) → s ∈ l.map g → s ∈ l.flatMap f := fun h hs => by
    obtain ⟨a, ha, rfl⟩ := List.mem_map.1 hs
    exact List.mem_flatMap.2 ⟨a, ha, h a⟩
  simp only [NamesD.lists, SheetD.num, SheetD.names, List.mem_cons, List.not_mem_nil, or_false] at hl
  rcases hl with rfl | rfl | rfl | rfl | rfl | rfl | rfl
  · cases hs
  · exact .inl (.inl (.inl (.inl (.inl hs))))
  · exact .inl (.inl (.inl (.inl (.inr (hm (fun a => by simp) hs)))))
  · exact .inl (.inl (.inl (.inr (hm (fun a => by simp) hs))))
  · exact .inl (.inl (.inr (hm (fun a => by simp) hs)))
  · exact .inl (.inr (hm (fun a => by simp) hs))
  · exact .inr (hm (fun a => by simp) hs)
theorem SheetD.Ok.numFew {x : SheetD} (o : x.Ok) : (x.num.names.lists.flatten).length < 4096 := by
  obtain ⟨f1, f2, f3, f4, f5, f6⟩ := o.1
  simp only [NamesD.lists, SheetD.num, SheetD.names, List.flatten_cons, List.flatten_nil, List.length_append, List.length_map, List.length_nil]
  omega
theorem SheetD.numLens (x : SheetD) : x.num.names.paths.length = x.num.paths.length ∧ x.num.names.doors.length = x.num.doors.length ∧ x.num.names.routes.length = x.num.routes.length ∧ x.num.names.trips.length = x.num.trips.length ∧ x.num.names.hazards.length = x.num.hazards.length := by
  refine ⟨?_, ?_, ?_, ?_, ?_⟩ <;> simp [SheetD.num, SheetD.names]
theorem SheetD.Ok.numRoutes {x : SheetD} (o : x.Ok) : ∀ r ∈ x.num.routes, r.rides.length + 1 = r.stops.length ∧ r.stops.length ≤ 1000 := by
  intro r hr
  obtain ⟨a, ha, rfl⟩ := List.mem_map.1 hr
  obtain ⟨h1, h2, h3, h4⟩ := o.2.2.2 a ha
  simp only [RouteS.num, List.length_map]
  omega
def RouteS.light (r : RouteS) : Prop := r.stops.length ≤ 60 ∧ r.rides.length ≤ 60 ∧ r.stays.length ≤ 60
def SheetD.light (x : SheetD) : Prop := x.stops.length ≤ 60 ∧ x.paths.length ≤ 60 ∧ x.doors.length ≤ 60 ∧ x.routes.length ≤ 60 ∧ x.trips.length ≤ 60 ∧ x.hazards.length ≤ 60 ∧ ∀ r ∈ x.routes, r.light
theorem SheetD.light.slim {x : SheetD} (l : x.light) : x.slim := fun r hr => by
  obtain ⟨h1, h2, h3⟩ := l.2.2.2.2.2.2 r hr
  exact ⟨by omega, by omega, by omega⟩
def WorldD.short (w : WorldD) : Prop := w.names.stops.length ≤ 1099511627776 ∧ w.names.paths.length ≤ 1099511627776 ∧ w.names.doors.length ≤ 1099511627776 ∧ w.names.routes.length ≤ 1099511627776 ∧ w.names.trips.length ≤ 1099511627776 ∧ w.names.hazards.length ≤ 1099511627776 ∧ w.paths.length ≤ 1099511627776 ∧ w.doors.length ≤ 1099511627776 ∧ w.routes.length ≤ 1099511627776 ∧ w.trips.length ≤ 1099511627776 ∧ w.hazards.length ≤ 1099511627776 ∧ ∀ r ∈ w.routes, r.stops.length ≤ 1099511627776 ∧ r.rides.length ≤ 1099511627776 ∧ r.stays.length ≤ 1099511627776
theorem SheetD.num_short {x : SheetD} (o : x.Ok) : x.num.short := by
  obtain ⟨f1, f2, f3, f4, f5, f6⟩ := o.1
  refine ⟨?_, ?_, ?_, ?_, ?_, ?_, ?_, ?_, ?_, ?_, ?_, fun r hr => ?_⟩
  iterate 11 (simp only [SheetD.num, SheetD.names, List.length_map]; omega)
  obtain ⟨a, ha, rfl⟩ := List.mem_map.1 hr
  obtain ⟨h1, h2, h3, h4⟩ := o.2.2.2 a ha
  simp only [RouteS.num, List.length_map]
  omega
end Go.CM.Tt

noncomputable section
namespace Go.CM
section
variable {h h' H : Heap} {lo z : Nat} {v : CV} {l : List (List CV)} {E : Env} {tm : Tm} {Q : R → Prop} {all rest : List Oper} {o : Oper} {bs : List Bits} {recs : List Rec} {i : Nat} {idx : List Nat}
theorem W.apD {c : Call} {t t2 e : TypeId} {ts es t2s : TyS} {s s2 : CV} {l2 : List (List CV)} (hri : ∀ r ∈ recs, recIdx r ∈ idx) (X : Ext H h) (so : OwnR h H.next z s l) (s2l : SlG h z s2 l2) (hid : (idx.all fun j => bit j ((nth bs i).getD Bits.nil)) = true)
    (hgd : guardOn all tm o = some true) (hop : o.op = .call c) (hb : c.callee = .builtin .append) (hty : c.argTypes.toList = [t, t2]) (ha : c.args.toList.map (cvOf E.globs tm) = [s, s2])
    (hts : E.ty t = some ts) (hk : ts.kind = .slice e) (hes : E.ty e = some es) (hz : es.size = z) (hz0 : (Nat.beq es.size 0 || Nat.beq es.bytes 0) = false) (ht2 : E.ty t2 = some t2s) (hk2 : t2s.kind = .slice e) (hm : (l.length + l2.length) * es.bytes ≤ 70368744177664)
    (w : ∀ recs' v' h', (∀ r ∈ recs', recIdx r ∈ i :: idx) → Ext H h' → h.next ≤ h'.next → (∀ k, k < h.next → k < H.next ∨ idOf s ≠ [k] → h'.get k = h.get k) → OwnR h' H.next z v' (l ++ l2) → (∀ c, c < h.next → idOf s ≠ [c] → idOf v' ≠ [c]) → (l2 ≠ [] → idOf v' = [h.next]) → W E (.draw bs all rest (i + 1) recs') (putTmp tm o.dst v') h' Q) : W E (.draw bs all (o :: rest) i recs) tm h Q := by
  have hfp : fpAny E o tm = idOf s ++ idOf s2 := by
    unfold fpAny
    rw [hop]
    simp only [fpOf, hb]
    rw [show (c.args.toList.map fun x => idOf (cvOf E.globs tm x)) = (c.args.toList.map (cvOf E.globs tm)).map idOf by rw [List.map_map]; rfl, ha]
    simp
  have hwr : wrOf o.op = true := by rw [hop]; simp only [wrOf, hb]
  obtain ⟨fp, hfpe⟩ : ∃ fp, fp = idOf s ++ idOf s2 := ⟨_, rfl⟩
  rw [← hfpe] at hfp
  have g0 : ∀ k, k ∈ fp → (only h fp).get k = h.get k := fun k hk => by rw [only_get, if_pos hk]
  have nx : (only h fp).next = h.next := only_next _ _
  have so' : OwnR (only h fp) H.next z s l := so.other (by rw [nx]; exact Nat.le_refl _) fun k _ _ hk => g0 k (by rw [hfpe, hk]; simp)
  have s2' : SlG (only h fp) z s2 l2 := by
    rcases s2l with ⟨rfl, rfl⟩ | ⟨rfl, rfl⟩ | ⟨i, o, c, x, cs, ro, rfl, g2, g3, g4, g5, g6⟩
    · exact .inl ⟨rfl, rfl⟩
    · exact .inr (.inl ⟨rfl, rfl⟩)
    · exact .inr (.inr ⟨i, o, c, x, cs, ro, rfl, by rw [nx]; exact g2, (g0 i (by rw [hfpe]; simp [idOf])).trans g3, g4, g5, g6⟩)
  have hlt : ∀ k, k ∈ fp → k < h.next := fun k hk => by
    rw [hfpe] at hk
    rcases List.mem_append.1 hk with hk | hk
    · rcases so with ⟨rfl, rfl⟩ | ⟨i, y, ro, rfl, h1, h2, _⟩
      · cases hk
      · have : k = i := by simpa [idOf] using hk
        rw [this]; exact h2
    · rcases s2l with ⟨rfl, rfl⟩ | ⟨rfl, rfl⟩ | ⟨i, o, c, x, cs, ro, rfl, g2, g3, g4, g5, g6⟩
      · cases hk
      · cases hk
      · have : k = i := by simpa [idOf] using hk
        rw [this]; exact g2
  obtain ⟨v', hh, k1, k2, k2b, k3, k4, k5, k6, k7⟩ := append_own (by rw [nx]; exact X.next) so' s2' hts hk hes hz hz0 ht2 hk2 hm
  rw [nx] at k2 k2b k3
  have ho : opAny E o tm (only h (fpAny E o tm)) = some (v', hh) := by
    rw [hfp]
    unfold opAny
    rw [hop]
    simp only [hb]
    show builtinV E _ .append c.argTypes.toList (c.args.toList.map (cvOf E.globs tm)) = _
    rw [hty, ha]
    exact k1
  have hbk : ∀ k, k < h.next → k < H.next ∨ idOf s ≠ [k] → (back h hh (fp ++ span h.next (hh.next - h.next))).get k = h.get k := by
    intro k hk hc
    rw [back_get]
    split
    · rename_i hm
      rcases List.mem_append.1 hm with hm | hm
      · rw [k3 k hk hc, g0 k hm]
      · exfalso
        have : hh.next = h.next ∨ hh.next = h.next + 1 := by omega
        rcases this with e | e
        · rw [e, Nat.sub_self] at hm; cases hm
        · rw [e, show h.next + 1 - h.next = 1 by omega] at hm
          have : k = h.next := by
            have hm : k ∈ [h.next + 0] := hm
            simpa using hm
          omega
    · rfl
  have hbn : (back h hh (fp ++ span h.next (hh.next - h.next))).next = hh.next := back_next _ _ _
  have X' : Ext H (back h hh (fp ++ span h.next (hh.next - h.next))) := by
    refine ⟨by rw [hbn]; exact Nat.le_trans X.next k2, fun k hk => (hbk k (Nat.lt_of_lt_of_le hk X.next) (.inl hk)).trans (X.old k hk), fun f k hk => ?_⟩
    rw [hbn] at hk
    rw [back_get]
    have fh := X.fr f
    split
    · rename_i hm
      rcases List.mem_append.1 hm with hm | hm
      · have := hlt k hm; omega
      · exfalso
        have : hh.next = h.next ∨ hh.next = h.next + 1 := by omega
        rcases this with e | e
        · rw [e, Nat.sub_self] at hm; cases hm
        · rw [e, show h.next + 1 - h.next = 1 by omega] at hm
          have : k = h.next := by
            have hm : k ∈ [h.next + 0] := hm
            simpa using hm
          omega
    · exact fh k (by omega)
  have k5' : OwnR (back h hh (fp ++ span h.next (hh.next - h.next))) H.next z v' (l ++ l2) := by
    have gg : ∀ k, k ∈ fp ∨ (h.next ≤ k ∧ k < hh.next) → (back h hh (fp ++ span h.next (hh.next - h.next))).get k = hh.get k := by
      intro k hc
      rw [back_get, if_pos]
      rcases hc with hc | ⟨c1, c2⟩
      · exact List.mem_append_left _ hc
      · refine List.mem_append_right _ ?_
        have : k = h.next := by omega
        rw [show hh.next - h.next = 1 by omega, this]
        show h.next ∈ [h.next + 0]
        simp
    rw [nx] at k7
    have inn : ∀ i, idOf v' = [i] → i < hh.next → i ∈ fp ∨ (h.next ≤ i ∧ i < hh.next) := by
      intro i hi hlt2
      by_cases hl2 : l2 = []
      · left
        rw [hfpe, ← (k6 hl2).1, hi]
        simp
      · right
        have := (k7 hl2).1
        rw [hi] at this
        have : i = h.next := by simpa using this
        omega
    rcases k5 with ⟨e0, rfl⟩ | ⟨i, y, ro, rfl, h1, h2, h3, h4, h5⟩
    · exact .inl ⟨e0, rfl⟩
    · exact .inr ⟨i, y, ro, rfl, h1, by rw [hbn]; exact h2, (gg i (inn i rfl h2)).trans h3, h4, h5⟩
  have hall : ∀ r ∈ recs, bit (recIdx r) ((nth bs i).getD Bits.nil) = true := fun r hm => List.all_eq_true.1 hid _ (hri r hm)
  have kid : ∀ c, c < h.next → idOf s ≠ [c] → idOf v' ≠ [c] := by
    intro c hc hs
    by_cases hl2 : l2 = []
    · rw [(k6 hl2).1]; exact hs
    · have := (k7 hl2).1
      rw [nx] at this
      rw [this]
      intro e
      have : h.next = c := by simpa using e
      omega
  by_cases hno : fp = [] ∧ hh.next = h.next
  · have hl2 : l2 = [] := by
      by_cases hl2 : l2 = []
      · exact hl2
      · have := (k7 hl2).2
        rw [nx] at this
        omega
    have hv := (k6 hl2).1
    obtain ⟨r, ⟨N, e⟩, q⟩ := w recs v' h (fun r hr => List.mem_cons_of_mem _ (hri r hr)) X (Nat.le_refl _) (fun _ _ _ => rfl) (by rw [hl2, List.append_nil, hv]; exact so) (fun c _ hc => by rw [hv]; exact hc) (fun hc => absurd hl2 hc)
    refine ⟨r, .step ⟨N, fun m hm => ?_⟩, q⟩
    show (match guardOn all tm o with
      | some true => dOp E (run E m) bs all rest o i recs tm h
      | some false => run E m (.draw bs all rest (i + 1) recs) (putTmp tm o.dst (.tup [])) h
      | none => .stop) = r
    rw [hgd]
    show dOp E (run E m) bs all rest o i recs tm h = r
    rw [dOp_any ho, hfp, hwr, hno.1]
    show (match isNil ([] : List Nat) && Nat.beq hh.next h.next with
      | true => run E m (.draw bs all rest (i + 1) recs) (putTmp tm o.dst v') h
      | false => _) = r
    rw [hno.2, Nat.beq_refl]
    exact e m hm
  · obtain ⟨r, ⟨N, e⟩, q⟩ := w (.op i fp true h.next hh.next :: recs) v' _ (fun r hm => by
    rcases List.mem_cons.1 hm with rfl | hm
    · simp [recIdx]
    · exact List.mem_cons_of_mem _ (hri r hm)) X' (by rw [hbn]; exact k2) hbk k5' kid (fun hc => by have := (k7 hc).1; rw [nx] at this; exact this)
    refine ⟨r, .step ⟨N, fun m hm => ?_⟩, q⟩
    show (match guardOn all tm o with
      | some true => dOp E (run E m) bs all rest o i recs tm h
      | some false => run E m (.draw bs all rest (i + 1) recs) (putTmp tm o.dst (.tup [])) h
      | none => .stop) = r
    rw [hgd]
    show dOp E (run E m) bs all rest o i recs tm h = r
    rw [dOp_any ho, hfp, hwr]
    have hcond : (isNil fp && Nat.beq hh.next h.next) = false := by
      cases hf : fp with
      | cons a b => rfl
      | nil =>
        cases hb : Nat.beq hh.next h.next with
        | false => rfl
        | true => exact absurd ⟨hf, Nat.eq_of_beq_eq_true hb⟩ hno
    show (match isNil fp && Nat.beq hh.next h.next with
      | true => run E m (.draw bs all rest (i + 1) recs) (putTmp tm o.dst v') h
      | false => match okPairs ((nth bs i).getD Bits.nil) fp true (span h.next (hh.next - h.next)) recs with
        | true => run E m (.draw bs all rest (i + 1) (.op i fp true h.next hh.next :: recs)) (putTmp tm o.dst v') (back h hh (fp ++ span h.next (hh.next - h.next)))
        | false => .stop) = r
    rw [hcond, okPairs_ahead hall]
    exact e m hm
end
end Go.CM

noncomputable section
namespace Go.CM
section
variable {h h' H : Heap} {lo z : Nat} {v : CV} {l : List (List CV)} {E : Env} {tm : Tm} {Q : R → Prop} {all rest : List Oper} {o : Oper} {B : Nat → Prop} {bs : List Bits} {recs : List Rec} {i : Nat} {idx nr : List Nat}
theorem W.ldVw {t : TypeId} {x : Operand} {id off : Nat} {e : List CV} {s : TyS} (dv : DV B h idx nr recs) (hB : B id) (L : LocE h id off e) (hgd : guardOn all tm o = some true) (hop : o.op = .load t x) (hx : cvOf E.globs tm x = .ptr (some (id, off))) (hs : E.ty t = some s) (h1 : e.length = s.size) (h2 : s.agg = true)
    (w : ∀ recs' h', DV B h' (i :: idx) nr recs' → Same h h' → LocE h' id off e → W E (.draw bs all rest (i + 1) recs') (putTmp tm o.dst (.agg e)) h' Q) : W E (.draw bs all (o :: rest) i recs) tm h Q := by
  obtain ⟨cs, ro, g1, g2, g3⟩ := L
  have hfp : fpAny E o tm = [id] := by
    unfold fpAny
    rw [hop]
    show idOf (cvOf E.globs tm x) = [id]
    rw [hx]; rfl
  have hwr : wrOf o.op = false := by rw [hop]; rfl
  have hget : (only h [id]).get id = some (.cells cs ro) := by rw [only_get]; simpa using g1
  have ho : opAny E o tm (only h (fpAny E o tm)) = some (.agg e, only h [id]) := by
    rw [hfp]
    unfold opAny
    rw [hop]
    show oLoad E t (cvOf E.globs tm x) (only h [id]) = _
    rw [hx]
    have hp : CM.part cs off s.size s.agg = some (.agg e) := by
      unfold CM.part
      rw [h2, ← h1, g3]; rfl
    unfold oLoad CM.load loadB
    simp only [hget, hs, hp, withH]
  have hsame : Same h (back h (only h [id]) ([id] ++ span h.next 0)) := by
    refine ⟨by rw [back_next, only_next], fun k => ?_⟩
    rw [back_get]
    split
    · rename_i hk
      have : k = id := by
        have hk : k ∈ [id] := hk
        simpa using hk
      subst this
      rw [hget, g1]
    · rfl
  obtain ⟨r, ⟨N, e⟩, q⟩ := w (.op i [id] false h.next h.next :: recs) _ (dv.more ((dv.d.cons (Nat.le_refl _) (fun k hk => by rw [List.mem_singleton] at hk; rw [hk]; exact g2) fun b hb => ⟨dv.d.b b hb, fun h => by cases h⟩).same hsame.next) (Nat.le_of_eq hsame.next.symm) (.inr ⟨i, [id], h.next, rfl, fun k hk => by rw [List.mem_singleton] at hk; rw [hk]; exact hB, fun k hk => by rw [List.mem_singleton] at hk; rw [hk, hsame.next]; exact g2⟩) fun j hj => hj) hsame (LocE.ext ⟨cs, ro, g1, g2, g3⟩ hsame.ext)
  refine ⟨r, .step ⟨N, fun m hm => ?_⟩, q⟩
  show (match guardOn all tm o with
      | some true => dOp E (run E m) bs all rest o i recs tm h
      | some false => run E m (.draw bs all rest (i + 1) recs) (putTmp tm o.dst (.tup [])) h
      | none => .stop) = r
  rw [hgd]
  show dOp E (run E m) bs all rest o i recs tm h = r
  rw [dOp_any ho, hfp, hwr]
  have hnx : (only h [id]).next = h.next := only_next _ _
  show (match okPairs ((nth bs i).getD Bits.nil) [id] false (span h.next ((only h [id]).next - h.next)) recs with
    | true => run E m (.draw bs all rest (i + 1) (.op i [id] false h.next (only h [id]).next :: recs)) (putTmp tm o.dst (.agg _)) (back h (only h [id]) ([id] ++ span h.next ((only h [id]).next - h.next)))
    | false => .stop) = r
  rw [hnx, Nat.sub_self]
  have : okPairs ((nth bs i).getD Bits.nil) [id] false (span h.next 0) recs = true := DY.pairs_read hB dv.d
  rw [this]
  exact e m hm
theorem W.stV {t : TypeId} {x y : Operand} {id off : Nat} {cs cs' vs : List CV} {s : TyS} (dv : DV B h idx nr recs) (hB : ¬ B id) (hid : (nr.all fun j => bit j ((nth bs i).getD Bits.nil)) = true) (hgd : guardOn all tm o = some true) (hop : o.op = .store t x y) (hx : cvOf E.globs tm x = .ptr (some (id, off))) (hy : (cvOf E.globs tm y).cells = some vs)
    (hs : E.ty t = some s) (hl : Nat.beq (len vs) s.size = true) (hg : h.get id = some (.cells cs false)) (hp : setAt cs vs off = some cs')
    (w : ∀ recs' h', (∀ r ∈ recs', recIdx r ∈ i :: idx) → Same (h.put id (.cells cs' false)) h' → W E (.draw bs all rest (i + 1) recs') (putTmp tm o.dst .undef) h' Q) : W E (.draw bs all (o :: rest) i recs) tm h Q := by
  have hri : ∀ r ∈ recs, recIdx r ∈ idx := fun r hr => (dv.d.r r hr).1
  have hfp : fpAny E o tm = [id] := by
    unfold fpAny
    rw [hop]
    show idOf (cvOf E.globs tm x) = [id]
    rw [hx]; rfl
  have hwr : wrOf o.op = true := by rw [hop]; rfl
  have hget : (only h [id]).get id = some (.cells cs false) := by rw [only_get]; simpa using hg
  have ho : opAny E o tm (only h (fpAny E o tm)) = some (.undef, (only h [id]).put id (.cells cs' false)) := by
    rw [hfp]
    unfold opAny
    rw [hop]
    show oStore E t (cvOf E.globs tm x) (cvOf E.globs tm y) (only h [id]) = _
    rw [hx]
    unfold oStore CM.store storeV
    simp only [hs, hy, hl]
    unfold putCells
    simp only [hget, hp, Option.map_some, ofH]
  have hnx : ((only h [id]).put id (.cells cs' false)).next = h.next := only_next _ _
  have hsame : Same (h.put id (.cells cs' false)) (back h ((only h [id]).put id (.cells cs' false)) ([id] ++ span h.next 0)) := by
    refine ⟨by rw [back_next, hnx]; rfl, fun k => ?_⟩
    rw [back_get, Heap.get_put, Heap.get_put]
    split
    · rename_i hk
      have : k = id := by
        have hk : k ∈ [id] := hk
        simpa using hk
      subst this
      simp
    · rename_i hk
      have : ¬ id = k := by
        intro e; subst e
        exact hk (by show id ∈ [id]; simp)
      rw [if_neg this]
  have hall : okPairs ((nth bs i).getD Bits.nil) [id] true (span h.next 0) recs = true := DV.pairs (fun b hb hm => hB (by rw [List.mem_singleton] at hm; rw [← hm]; exact hb)) (fun k hk => (by cases hk)) (fun j hj => List.all_eq_true.1 hid _ hj) dv.r
  obtain ⟨r, ⟨N, e⟩, q⟩ := w (.op i [id] true h.next h.next :: recs) _ (fun r hm => by
    rcases List.mem_cons.1 hm with rfl | hm
    · simp [recIdx]
    · exact List.mem_cons_of_mem _ (hri r hm)) hsame
  refine ⟨r, .step ⟨N, fun m hm => ?_⟩, q⟩
  show (match guardOn all tm o with
      | some true => dOp E (run E m) bs all rest o i recs tm h
      | some false => run E m (.draw bs all rest (i + 1) recs) (putTmp tm o.dst (.tup [])) h
      | none => .stop) = r
  rw [hgd]
  show dOp E (run E m) bs all rest o i recs tm h = r
  rw [dOp_any ho, hfp, hwr]
  show (match okPairs ((nth bs i).getD Bits.nil) [id] true (span h.next (((only h [id]).put id (.cells cs' false)).next - h.next)) recs with
    | true => run E m (.draw bs all rest (i + 1) (.op i [id] true h.next ((only h [id]).put id (.cells cs' false)).next :: recs)) (putTmp tm o.dst .undef) (back h ((only h [id]).put id (.cells cs' false)) ([id] ++ span h.next (((only h [id]).put id (.cells cs' false)).next - h.next)))
    | false => .stop) = r
  rw [hnx, Nat.sub_self, hall]
  exact e m hm
theorem W.dixR {α : Type} [Rp α] {l : List α} {v : CV} {t : TypeId} {x y : Operand} {s : TyS} {et j : Nat} {kk : IntKind} (sl : Sl H v l) (hj : j < l.length) (hgd : guardOn all tm o = some true) (hop : o.op = .indexAddr t x y) (hx : cvOf E.globs tm x = v) (hy : cvOf E.globs tm y = .int kk (j : Int)) (hs : E.ty t = some s) (hk : s.kind = .slice et) (hz : sizeOf? E et = some (Rp.z α))
    (w : ∀ id off e, LocE H id off e → Rp.R H e l[j] → W E (.draw bs all rest (i + 1) recs) (putTmp tm o.dst (.ptr (some (id, off)))) h Q) : W E (.draw bs all (o :: rest) i recs) tm h Q := by
  obtain ⟨id, off, c, x', e, rfl, L, r⟩ := sl.at hj
  exact W.dix hgd hop hx hy hs hk hz (place_of rfl hj) (w _ _ e L r)
end
theorem BodyQ.cell2 {E : Env} {tm : Tm} {h : Heap} {Q : R → Prop} {rs : List ResultVar} {a b i off j off2 : Nat} {t t2 : TypeId} {s s2 : TyS} {cs cs2 : List CV} {ro ro2 : Bool} {v v2 : CV} (hrs : rs = [.cell a t, .cell b t2]) (ha : tm.look a = .ptr (some (i, off))) (hb : tm.look b = .ptr (some (j, off2))) (hg : h.get i = some (.cells cs ro)) (hg2 : h.get j = some (.cells cs2 ro2)) (hs : E.ty t = some s) (hs2 : E.ty t2 = some s2) (hp : CM.part cs off s.size s.agg = some v) (hp2 : CM.part cs2 off2 s2.size s2.agg = some v2)
    (q : Q (.val (.tup [v, v2]) h)) : BodyQ E rs Q (.code .ret tm h) := by
  show Q (kBody E rs (.code .ret tm h))
  have e : resultVals E h tm rs = some [v, v2] := by
    subst hrs
    have hl : CM.load E h t i off = some v := by
      unfold CM.load loadB
      simp only [hg, hs, hp]
    have hl2 : CM.load E h t2 j off2 = some v2 := by
      unfold CM.load loadB
      simp only [hg2, hs2, hp2]
    have h3 : tm.get a = some (.ptr (some (i, off))) := by
      have : tm.get a = some (tm.look a) := rfl
      rw [this, ha]
    have h4 : tm.get b = some (.ptr (some (j, off2))) := by
      have : tm.get b = some (tm.look b) := rfl
      rw [this, hb]
    unfold resultVals
    simp only [h3, hl]
    unfold resultVals
    simp only [h4, hl2, resultVals]
  unfold kBody
  simp only [e]
  exact q
end Go.CM
