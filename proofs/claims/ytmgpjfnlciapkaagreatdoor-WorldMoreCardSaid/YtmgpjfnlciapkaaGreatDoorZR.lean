/- A stop more, a path more: in plain words. No condition, no program. -/
import Derived.Test.YtmgpjfnlciapkaaGreatDoorZN
import Derived.Test.YtmgpjfnlciapkaaGreatDoorYZ
set_option linter.unusedVariables false
set_option linter.unusedSimpArgs false
noncomputable section
namespace Go.CM.Tt
theorem place_app {l m : List Str} {a : Str} (h : a ∈ l) : place (l ++ m) a = place l a := by
  induction l with
  | nil => cases h
  | cons b l ih =>
    rw [List.cons_append]
    unfold place
    by_cases c : b = a
    · rw [if_pos c, if_pos c]
    · rw [if_neg c, if_neg c]
      rcases List.mem_cons.1 h with h | h
      · exact absurd h.symm c
      · rw [ih h]
theorem place_not {l : List Str} {a : Str} (h : a ∉ l) : place l a = -1 := by
  have h1 := place_ge l a
  have h2 : ¬ 0 ≤ place l a := fun h3 => h (place_mem.1 h3)
  omega
theorem place_last {l : List Str} {a : Str} (h : a ∉ l) : place (l ++ [a]) a = l.length := by
  refine place_some (k := l.length) (by rw [List.getElem?_append_right (Nat.le_refl _), Nat.sub_self]; rfl) fun j hj b hb e => ?_
  rw [List.getElem?_append_left hj] at hb
  exact h (by rw [← e]; exact List.mem_of_getElem? hb)
def SheetD.stop (x : SheetD) (s : Str) : SheetD := { x with stops := x.stops ++ [s] }
theorem SheetD.Ok.stop {x : SheetD} (o : x.Ok) {s : Str} (ns : NameOk s) (hl : x.stops.length ≤ 100) : (x.stop s).Ok := by
  obtain ⟨⟨f1, f2, f3, f4, f5, f6⟩, o2, o3, o4⟩ := o
  refine ⟨⟨by show (x.stops ++ [s]).length ≤ 256; rw [List.length_append, List.length_singleton]; omega, f2, f3, f4, f5, f6⟩, fun a ha => ?_, o3, o4⟩
  have : a ∈ x.all ∨ a = s := by
    unfold SheetD.all SheetD.stop at *
    simp only [List.mem_append, List.mem_singleton] at ha ⊢
    rcases ha with ((((((ha | ha) | ha) | ha) | ha) | ha) | ha)
    · exact .inl (.inl (.inl (.inl (.inl (.inl ha)))))
    · exact .inr ha
    · exact .inl (.inl (.inl (.inl (.inl (.inr ha)))))
    · exact .inl (.inl (.inl (.inl (.inr ha))))
    · exact .inl (.inl (.inl (.inr ha)))
    · exact .inl (.inl (.inr ha))
    · exact .inl (.inr ha)
  rcases this with h | rfl
  · exact o2 a h
  · exact ns
theorem way_zero {a b n : Int} (h : wayErr a b n = 0) : 0 ≤ a ∧ 0 ≤ b := by
  unfold wayErr at h
  split at h
  · omega
  · rename_i c
    omega
theorem SheetD.Fit.pathNum {x : SheetD} (f : x.Fit) {m : List Str} : ∀ p ∈ x.paths, p.num (x.stops ++ m) = p.num x.stops := fun p hp => by
  have h := way_zero (f.paths p hp)
  unfold PathS.num
  rw [place_app (place_mem.1 h.1), place_app (place_mem.1 h.2)]
theorem SheetD.Fit.doorNum {x : SheetD} (f : x.Fit) {m : List Str} : ∀ p ∈ x.doors, p.num (x.stops ++ m) = p.num x.stops := fun p hp => by
  have h0 := f.doors p hp
  unfold DoorW.err at h0
  have h : wayErr (p.num x.stops).a (p.num x.stops).b (p.num x.stops).len = 0 := by
    by_cases c : wayErr (p.num x.stops).a (p.num x.stops).b (p.num x.stops).len = 0
    · exact c
    · rw [if_neg c] at h0; exact absurd h0 c
  have h := way_zero h
  unfold DoorS.num
  rw [place_app (place_mem.1 h.1), place_app (place_mem.1 h.2)]
theorem SheetD.Fit.routeNum {x : SheetD} (f : x.Fit) {m : List Str} : ∀ p ∈ x.routes, p.num (x.stops ++ m) = p.num x.stops := fun p hp => by
  have h0 := f.routes p hp
  unfold RouteW.err at h0
  have hm : (-1 : Int) ∉ (p.num x.stops).stops := fun hc => by rw [if_pos hc] at h0; cases h0
  unfold RouteS.num
  congr 1
  refine List.map_congr_left fun a ha => place_app (place_mem.1 ?_)
  have h1 := place_ge x.stops a
  have h2 : place x.stops a ≠ -1 := fun e => hm (List.mem_map.2 ⟨a, ha, e⟩)
  omega
theorem SheetD.Fit.hazNum {x : SheetD} (f : x.Fit) {s : Str} (hs : s ∉ x.names.paths) : ∀ p ∈ x.hazards, p.num (x.stops ++ [s]) x.names.paths = p.num x.stops x.names.paths := fun p hp => by
  have h0 := f.hazards p hp
  unfold HazS.num at h0 ⊢
  by_cases c : 0 ≤ place x.stops p.on
  · rw [place_app (place_mem.1 c), if_pos c]
  · rw [if_neg c] at h0 ⊢
    have h1 : 0 ≤ place x.names.paths p.on := by
      by_cases d : 0 ≤ place x.names.paths p.on
      · exact d
      · exfalso
        unfold HazW.err at h0
        rw [if_pos (by show place x.names.paths p.on < 0; omega)] at h0
        cases h0
    have h2 : p.on ≠ s := fun e => hs (by rw [← e]; exact place_mem.1 h1)
    have h3 : p.on ∉ x.stops ++ [s] := fun hm => by
      rcases List.mem_append.1 hm with hm | hm
      · exact c (place_mem.2 hm)
      · exact h2 (List.mem_singleton.1 hm)
    rw [if_neg (by rw [place_not h3]; omega)]
theorem SheetD.Fit.stopNum {x : SheetD} (f : x.Fit) {s : Str} (hs : s ∉ x.names.paths) : (x.stop s).num = { x.num with names := { x.num.names with stops := x.stops ++ [s] } } := by
  unfold SheetD.num
  show (⟨x.hz, ⟨x.stops ++ [s], x.names.paths, x.names.doors, x.names.routes, x.names.trips, x.names.hazards⟩, x.paths.map (·.num (x.stops ++ [s])), x.doors.map (·.num (x.stops ++ [s])), x.routes.map (·.num (x.stops ++ [s])), x.trips.map (·.num x.names.routes), x.hazards.map (·.num (x.stops ++ [s]) x.names.paths)⟩ : WorldD) = _
  rw [List.map_congr_left (f.pathNum (m := [s])), List.map_congr_left (f.doorNum (m := [s])), List.map_congr_left (f.routeNum (m := [s])), List.map_congr_left (f.hazNum hs)]
theorem nodup_mid {A B : List Str} {s : Str} (h : (A ++ B).Nodup) (hs : s ∉ A ++ B) : ((A ++ [s]) ++ B).Nodup := by
  have h1 := List.nodup_append.1 h
  rw [List.append_assoc]
  refine List.nodup_append.2 ⟨h1.1, List.nodup_append.2 ⟨by simp, h1.2.1, fun a ha b hb e => ?_⟩, fun a ha b hb e => ?_⟩
  · rw [List.mem_singleton] at ha
    exact hs (List.mem_append_right _ (by rw [← ha, e]; exact hb))
  · rcases List.mem_append.1 hb with hb | hb
    · rw [List.mem_singleton] at hb
      exact hs (List.mem_append_left _ (by rw [← hb, ← e]; exact ha))
    · exact h1.2.2 a ha b hb e
theorem SheetD.Fit.stop {x : SheetD} (f : x.Fit) {s : Str} (ns : NameOk s) (hl : x.stops.length ≤ 100) (hs : s ∉ x.names.lists.flatten) : (x.stop s).Fit := by
  have hp : s ∉ x.names.paths := fun h => hs (List.mem_flatten.2 ⟨_, by simp [NamesD.lists], h⟩)
  refine ⟨f.ok.stop ns hl, ?_, fun p hp => ?_, fun p hp => ?_, fun p hp => ?_, f.trips, fun p hp' => ?_⟩
  · have e1 : (x.stop s).names.lists.flatten = (x.stops ++ [s]) ++ (x.names.paths ++ (x.names.doors ++ (x.names.routes ++ (x.names.trips ++ x.names.hazards)))) := by
      simp [NamesD.lists, SheetD.names, SheetD.stop]
    have e2 : x.names.lists.flatten = x.stops ++ (x.names.paths ++ (x.names.doors ++ (x.names.routes ++ (x.names.trips ++ x.names.hazards)))) := by
      simp [NamesD.lists, SheetD.names]
    rw [e1]
    exact nodup_mid (by rw [← e2]; exact f.nd) (by rw [← e2]; exact hs)
  · show (p.num (x.stops ++ [s])).err = 0
    rw [f.pathNum p hp]; exact f.paths p hp
  · show (p.num (x.stops ++ [s])).err x.hz = 0
    rw [f.doorNum p hp]; exact f.doors p hp
  · show (p.num (x.stops ++ [s])).err = 0
    rw [f.routeNum p hp]; exact f.routes p hp
  · show (p.num (x.stops ++ [s]) x.names.paths).err x.hz = 0
    rw [f.hazNum hp p hp']; exact f.hazards p hp'
theorem findL_zero {s : Str} : ∀ {L : List (List Str)} {i : Int}, 1 ≤ i → ((findL s L i).1 = 0 ↔ s ∉ L.flatten)
  | [], _, _ => by simp [findL]
  | l :: L, i, hi => by
    have ih := findL_zero (s := s) (L := L) (i := i + 1) (by omega)
    unfold findL
    rw [List.flatten_cons, List.mem_append]
    by_cases c : 0 ≤ place l s
    · rw [if_pos c]
      exact Iff.intro (fun h => by simp only at h; omega) (fun h => absurd (.inl (place_mem.1 c)) h)
    · rw [if_neg c, ih]
      exact Iff.intro (fun h h2 => h2.elim (fun h3 => c (place_mem.2 h3)) h) (fun h h2 => h (.inr h2))
theorem NamesD.find_zero {n : NamesD} {s : Str} : (n.find s).1 = 0 ↔ s ∉ n.lists.flatten := by
  have h : n.find s = findL s [n.stops, n.paths, n.doors, n.routes, n.trips, n.hazards] 1 := by
    unfold NamesD.find NamesD.lists
    show (if 0 ≤ place [] s then _ else _) = _
    rw [if_neg (by show ¬ (0 : Int) ≤ -1; omega)]; rfl
  rw [h, findL_zero (by omega)]
  simp [NamesD.lists]
theorem stop_lists (x : SheetD) (s : Str) : (x.stop s).names.lists.flatten = (x.stops ++ [s]) ++ (x.names.paths ++ (x.names.doors ++ (x.names.routes ++ (x.names.trips ++ x.names.hazards)))) := by
  simp [NamesD.lists, SheetD.names, SheetD.stop]
theorem x_lists (x : SheetD) : x.names.lists.flatten = x.stops ++ (x.names.paths ++ (x.names.doors ++ (x.names.routes ++ (x.names.trips ++ x.names.hazards)))) := by
  simp [NamesD.lists, SheetD.names]
theorem SheetD.Fit.stopThere {x : SheetD} (f : x.Fit) {s : Str} (hl : x.stops.length ≤ 100) (hs : s ∈ x.names.lists.flatten) : (x.stop s).make.2.err = 6 := by
  obtain ⟨l, hl1, hl2⟩ := List.mem_flatten.1 hs
  have ns : NameOk s := f.ok.numNames l hl1 s hl2
  have o := f.ok.stop ns hl
  cases hd : dups [] (x.stop s).names.lists 0 with
  | some d => rw [o.makeDup hd]; exact dups_err hd
  | none =>
    exfalso
    have nd := dups_nodup hd (by simp)
    rw [List.nil_append, stop_lists, List.append_assoc] at nd
    rw [x_lists] at hs
    have h1 := List.nodup_append.1 nd
    rcases List.mem_append.1 hs with h | h
    · exact h1.2.2 s h s (by simp) rfl
    · exact (List.nodup_append.1 h1.2.1).2.2 s (by simp) s h rfl
theorem SheetD.Fit.stopText {x : SheetD} (f : x.Fit) {s : Str} (hl : x.stops.length ≤ 100) (hs : s ∉ x.names.lists.flatten) (he : (x.stop s).make.2.err ≠ 0) : (x.stop s).make.2.err = 7 := by
  by_cases ns : NameOk s
  · exact absurd (by rw [(f.stop ns hl hs).make]; rfl) he
  · have fw : (x.stop s).few := by
      obtain ⟨f1, f2, f3, f4, f5, f6⟩ := f.ok.1
      exact ⟨by show (x.stops ++ [s]).length ≤ 256; rw [List.length_append, List.length_singleton]; omega, f2, f3, f4, f5, f6⟩
    have e : (x.stop s).err = 7 := by
      unfold SheetD.err
      rw [if_neg (nn fw), if_pos fun h => ns (h s (by unfold SheetD.all SheetD.stop; simp))]
    unfold SheetD.make
    rw [if_neg (by rw [e]; decide), e]
theorem stopFind {x : SheetD} {s : Str} (hs : s ∉ x.names.lists.flatten) : (x.stop s).num.names.find s = (1, (x.stops.length : Int)) := by
  have h1 : s ∉ x.stops := fun h => hs (by rw [x_lists]; exact List.mem_append_left _ h)
  have hp := place_last h1
  have := findL_some (s := s) (L := (x.stop s).num.names.lists) (i := 0) (k := 1) (l := x.stops ++ [s]) (fun n m hn hm => by
    have : n = 0 := by omega
    subst this
    have : m = [] := (Option.some.inj hm).symm
    rw [this]
    show ¬ (0 : Int) ≤ -1
    omega) rfl (by rw [hp]; omega)
  unfold NamesD.find
  rw [this, hp]; rfl
end Go.CM.Tt

noncomputable section
namespace Go.CM.Tt
def SheetD.path (z : SheetD) (p : PathS) : SheetD := { z with paths := z.paths ++ [p] }
theorem mem_all_stops {z : SheetD} {a : Str} (h : a ∈ z.stops) : a ∈ z.all := by
  unfold SheetD.all
  simp only [List.mem_append]
  exact .inl (.inl (.inl (.inl (.inl h))))
theorem SheetD.Ok.path {z : SheetD} (o : z.Ok) {p : PathS} (np : NameOk p.name) (na : p.a ∈ z.stops) (nb : p.b ∈ z.stops) (ht : TickOk p.len) (hl : z.paths.length ≤ 100) : (z.path p).Ok := by
  have o2' := o.2.1
  obtain ⟨⟨f1, f2, f3, f4, f5, f6⟩, o2, o3, o4⟩ := o
  refine ⟨⟨f1, by show (z.paths ++ [p]).length ≤ 1024; rw [List.length_append, List.length_singleton]; omega, f3, f4, f5, f6⟩, fun a ha => ?_, fun n hn => ?_, o4⟩
  · have : a ∈ z.all ∨ a ∈ [p.name, p.a, p.b] := by
      unfold SheetD.all SheetD.path at ha
      unfold SheetD.all
      simp only [List.mem_append, List.flatMap_append, List.flatMap_cons, List.flatMap_nil, List.append_nil] at ha ⊢
      rcases ha with ((((ha | ha | ha) | ha) | ha) | ha) | ha
      · exact .inl (.inl (.inl (.inl (.inl (.inl ha)))))
      · exact .inl (.inl (.inl (.inl (.inl (.inr ha)))))
      · exact .inr ha
      · exact .inl (.inl (.inl (.inl (.inr ha))))
      · exact .inl (.inl (.inl (.inr ha)))
      · exact .inl (.inl (.inr ha))
      · exact .inl (.inr ha)
    rcases this with h | h
    · exact o2 a h
    · simp only [List.mem_cons, List.not_mem_nil, or_false] at h
      rcases h with rfl | rfl | rfl
      · exact np
      · exact o2 _ (mem_all_stops na)
      · exact o2 _ (mem_all_stops nb)
  · have : n ∈ z.nums ∨ n = p.len := by
      unfold SheetD.nums SheetD.path at hn
      unfold SheetD.nums
      simp only [List.mem_append, List.map_append, List.map_cons, List.map_nil, List.mem_singleton] at hn ⊢
      rcases hn with ((((hn | hn | hn) | hn) | hn) | hn) | hn
      · exact .inl (.inl (.inl (.inl (.inl (.inl hn)))))
      · exact .inl (.inl (.inl (.inl (.inl (.inr hn)))))
      · exact .inr hn
      · exact .inl (.inl (.inl (.inl (.inr hn))))
      · exact .inl (.inl (.inl (.inr hn)))
      · exact .inl (.inl (.inr hn))
      · exact .inl (.inr hn)
    rcases this with h | rfl
    · exact o3 n h
    · exact ht
theorem path_lists (z : SheetD) (p : PathS) : (z.path p).names.lists.flatten = ((z.stops ++ z.names.paths) ++ [p.name]) ++ (z.names.doors ++ (z.names.routes ++ (z.names.trips ++ z.names.hazards))) := by
  simp [NamesD.lists, SheetD.names, SheetD.path]
theorem z_lists (z : SheetD) : z.names.lists.flatten = (z.stops ++ z.names.paths) ++ (z.names.doors ++ (z.names.routes ++ (z.names.trips ++ z.names.hazards))) := by
  simp [NamesD.lists, SheetD.names]
theorem path_names (z : SheetD) (p : PathS) : (z.path p).names.paths = z.names.paths ++ [p.name] := by
  simp [SheetD.names, SheetD.path]
theorem SheetD.Fit.hazPath {z : SheetD} (f : z.Fit) {m : List Str} : ∀ h ∈ z.hazards, h.num z.stops (z.names.paths ++ m) = h.num z.stops z.names.paths := fun h hh => by
  have h0 := f.hazards h hh
  unfold HazS.num at h0 ⊢
  by_cases c : 0 ≤ place z.stops h.on
  · rw [if_pos c, if_pos c]
  · rw [if_neg c] at h0 ⊢
    have h1 : 0 ≤ place z.names.paths h.on := by
      by_cases d : 0 ≤ place z.names.paths h.on
      · exact d
      · exfalso
        unfold HazW.err at h0
        rw [if_pos (by show place z.names.paths h.on < 0; omega)] at h0
        cases h0
    rw [place_app (place_mem.1 h1), if_neg c]
theorem SheetD.Fit.path {z : SheetD} (f : z.Fit) {p : PathS} (np : NameOk p.name) (na : p.a ∈ z.stops) (nb : p.b ∈ z.stops) (hab : place z.stops p.a ≠ place z.stops p.b) (hn : 1 ≤ p.len) (ht : TickOk p.len) (hl : z.paths.length ≤ 100) (hs : p.name ∉ z.names.lists.flatten) : (z.path p).Fit := by
  refine ⟨f.ok.path np na nb ht hl, ?_, fun q hq => ?_, f.doors, f.routes, f.trips, fun q hq => ?_⟩
  · rw [path_lists]
    exact nodup_mid (by rw [← z_lists]; exact f.nd) (by rw [← z_lists]; exact hs)
  · rcases List.mem_append.1 (show q ∈ z.paths ++ [p] from hq) with hq | hq
    · exact f.paths q hq
    · rw [List.mem_singleton.1 hq]
      have h1 := place_mem.2 na
      have h2 := place_mem.2 nb
      show wayErr (place z.stops p.a) (place z.stops p.b) p.len = 0
      unfold wayErr
      rw [if_neg (by omega), if_neg (by omega)]
  · show (q.num z.stops (z.path p).names.paths).err z.hz = 0
    rw [path_names, f.hazPath q hq]
    exact f.hazards q hq
theorem SheetD.Fit.pathNum' {z : SheetD} (f : z.Fit) (p : PathS) : (z.path p).num = { z.num with names := { z.num.names with paths := z.num.names.paths ++ [p.name] }, paths := z.num.paths ++ [p.num z.stops] } := by
  have e : (z.path p).names = { z.names with paths := z.names.paths ++ [p.name] } := by simp [SheetD.names, SheetD.path]
  unfold SheetD.num
  rw [e]
  show (⟨z.hz, _, (z.paths ++ [p]).map (·.num z.stops), z.doors.map (·.num z.stops), z.routes.map (·.num z.stops), z.trips.map (·.num z.names.routes), z.hazards.map (·.num z.stops (z.names.paths ++ [p.name]))⟩ : WorldD) = _
  rw [List.map_append, List.map_congr_left (f.hazPath (m := [p.name]))]
  rfl
theorem SheetD.Fit.pathThere {z : SheetD} (f : z.Fit) {p : PathS} (np : NameOk p.name) (na : p.a ∈ z.stops) (nb : p.b ∈ z.stops) (ht : TickOk p.len) (hl : z.paths.length ≤ 100) (hs : p.name ∈ z.names.lists.flatten) : (z.path p).make.2.err = 6 := by
  have o := f.ok.path np na nb ht hl
  cases hd : dups [] (z.path p).names.lists 0 with
  | some d => rw [o.makeDup hd]; exact dups_err hd
  | none =>
    exfalso
    have nd := dups_nodup hd (by simp)
    rw [List.nil_append, path_lists, List.append_assoc] at nd
    rw [z_lists] at hs
    have h1 := List.nodup_append.1 nd
    rcases List.mem_append.1 hs with h | h
    · exact h1.2.2 _ h p.name (by simp) rfl
    · exact (List.nodup_append.1 h1.2.1).2.2 p.name (by simp) _ h rfl
def qq (s : Str) : Str := 113 :: (s ++ [113])
theorem no_q : ∀ r ∈ reserved, r.head? ≠ some 113 := by decide
theorem NameOk.qq {s : Str} (o : NameOk s) (h : s.length ≤ 12) : NameOk (qq s) := by
  obtain ⟨h1, h2, h3, h4, h5⟩ := o
  refine ⟨by unfold Tt.qq; simp, by unfold Tt.qq; simp; omega, fun c hc => ?_, fun hm => no_q _ hm rfl, fun c hc => ?_⟩
  · have : (113 : UInt8) = c := by simpa [Tt.qq] using hc
    rw [← this]; decide
  · unfold Tt.qq at hc
    simp only [List.mem_cons, List.mem_append, List.not_mem_nil, or_false] at hc
    rcases hc with rfl | hc | rfl
    · decide
    · exact h5 c hc
    · decide
theorem more_path {x : SheetD} (f : x.Fit) {s : Str} (ns : NameOk s) (h12 : s.length ≤ 12) (hs : s ∉ x.names.lists.flatten) (hl : x.stops.length ≤ 60) (hp : x.paths.length ≤ 60) {x0 : Str} (h0 : x.stops[0]? = some x0) {n : Int} (hn : 1 ≤ n ∧ n ≤ 1000) :
    let y := (x.stop s).path ⟨qq s, s, x0, n⟩
    (y.make.2.err ≠ 0 → y.make.2.err = 6) ∧ (y.make.2.err = 0 → y.make.1 = { (x.stop s).num with names := { (x.stop s).num.names with paths := (x.stop s).num.names.paths ++ [qq s] }, paths := (x.stop s).num.paths ++ [⟨x.stops.length, 0, n⟩] }) := by
  intro y
  have fz := f.stop ns (by omega) hs
  have na : s ∈ (x.stop s).stops := List.mem_append_right _ (by simp)
  have nb : x0 ∈ (x.stop s).stops := List.mem_append_left _ (List.mem_of_getElem? h0)
  have ht : TickOk n := ⟨by omega, by omega⟩
  have h1 : s ∉ x.stops := fun h => hs (by rw [x_lists]; exact List.mem_append_left _ h)
  have pa : place (x.stop s).stops s = x.stops.length := place_last h1
  have hpos : 0 < x.stops.length := (List.getElem?_eq_some_iff.1 h0).1
  have pb : place (x.stop s).stops x0 = 0 := by
    have := place_some (l := (x.stop s).stops) (s := x0) (k := 0) (by
      show (x.stops ++ [s])[0]? = _
      rw [List.getElem?_append_left hpos]; exact h0) fun j hj => by omega
    exact this
  by_cases hm : qq s ∈ (x.stop s).names.lists.flatten
  · have e := fz.pathThere (p := ⟨qq s, s, x0, n⟩) (ns.qq h12) na nb ht (by show x.paths.length ≤ 100; omega) hm
    exact ⟨fun _ => e, fun h => by rw [show y.make.2.err = 6 from e] at h; cases h⟩
  · have fy := fz.path (p := ⟨qq s, s, x0, n⟩) (ns.qq h12) na nb (by show place (x.stop s).stops s ≠ place (x.stop s).stops x0; rw [pa, pb]; omega) hn.1 ht (by show x.paths.length ≤ 100; omega) hm
    have em : y.make = (y.num, Wrong0) := fy.make
    refine ⟨fun h => absurd (by rw [em]; rfl) h, fun _ => ?_⟩
    rw [em]
    show ((x.stop s).path ⟨qq s, s, x0, n⟩).num = _
    rw [fz.pathNum']
    have : PathS.num (x.stop s).stops ⟨qq s, s, x0, n⟩ = ⟨x.stops.length, 0, n⟩ := by
      show (⟨place (x.stop s).stops s, place (x.stop s).stops x0, n⟩ : PathW) = _
      rw [pa, pb]
    rw [this]
end Go.CM.Tt

namespace Go.CM.Tt
theorem SheetD.Ok.numSmall {x : SheetD} (o : x.Ok) : x.num.small := by
  obtain ⟨f1, f2, f3, f4, f5, f6⟩ := o.1
  refine ⟨?_, ?_, ?_, ?_, ?_, ?_, ?_, ?_, ?_, ?_, ?_, fun r hr => ?_⟩
  iterate 11 (simp only [SheetD.num, SheetD.names, List.length_map]; omega)
  obtain ⟨a, ha, rfl⟩ := List.mem_map.1 hr
  obtain ⟨h1, h2, h3, h4⟩ := o.2.2.2 a ha
  simp only [RouteS.num, List.length_map]
  omega
end Go.CM.Tt

noncomputable section
namespace Go.CM.Tt
section
variable {h h' : Heap} {lo : Nat} {w : WorldD} {hz m1 m2 m3 m4 m5 m6 p d vr t z : CV}
theorem OwnWd.own_nstops (o : OwnWd h lo hz m1 m2 m3 m4 m5 m6 p d vr t z w) : OwnR h lo 1 m1 (w.names.stops.map Flat.enc) := by
  obtain ⟨css, r1, r2⟩ := o.r
  exact r2.o (1, m1, w.names.stops.map Flat.enc) (by simp [flatW])
theorem op_cat {a b : Str} {g : Heap} (hl : a.length + b.length ≤ 1048576) : withH g (strOp .add a b) = some (.str (a ++ b), g) := by
  unfold strOp
  rw [len_eq, len_eq, Nat.ble_eq_true_of_le hl]; rfl
end
end Go.CM.Tt

noncomputable section
namespace Go.CM.Tt
section
variable {h h' : Heap} {lo b : Nat} {w : WorldD} {x : SheetD}
theorem OwnG.put {rs : List RowE} {xs : List Nat} (g : OwnG h lo rs (b :: xs)) (hn : h'.next = h.next) (hk : ∀ k, k ≠ b → h'.get k = h.get k) : OwnG h' lo rs (b :: xs) ∧ ∀ k ∈ xs, h'.get k = h.get k := by
  have nd := List.nodup_append.1 g.nd
  have n1 : ∀ k ∈ idsR rs, k ≠ b := fun k hk => nd.2.2 k hk b (by simp)
  have n2 : ∀ k ∈ xs, k ≠ b := fun k hk e => (List.nodup_cons.1 nd.2.1).1 (e ▸ hk)
  exact ⟨⟨fun r hr => (g.o r hr).other (by omega) fun k _ _ hi => hk k (n1 k (List.mem_flatMap.2 ⟨r, hr, by rw [hi]; simp⟩)), g.nd, fun k hk => by rw [hn]; exact g.x k hk⟩, fun k hk' => hk k (n2 k hk')⟩
theorem OwnG.box {rs : List RowE} {xs : List Nat} (g : OwnG h lo rs xs) (X : Ext h h') (hlo : lo ≤ h.next) (hb : h.next ≤ b) (hl : b < h'.next) : OwnG h' lo rs (b :: xs) := by
  have nd := List.nodup_append.1 g.nd
  have hx := X.next
  have ne : ∀ k ∈ idsR rs ++ xs, k ≠ b := fun k hk => by have := (g.lt k hk).2; omega
  refine ⟨fun r hr => (g.o r hr).ext X, List.nodup_append.2 ⟨nd.1, List.nodup_cons.2 ⟨fun hm => ne b (List.mem_append_right _ hm) rfl, nd.2.1⟩, fun a ha c hc e => ?_⟩, fun k hk => ?_⟩
  · rcases List.mem_cons.1 hc with rfl | hc
    · exact ne a (List.mem_append_left _ ha) e
    · exact nd.2.2 a ha c hc e
  · rcases List.mem_cons.1 hk with rfl | hk
    · exact ⟨by omega, hl⟩
    · have := g.x k hk; exact ⟨this.1, by omega⟩
def flatS (x : SheetD) (n1 n2 n3 n5 n6 : CV) : List RowE := [(1, n1, x.stops.map Flat.enc), (4, n2, x.paths.map Flat.enc), (7, n3, x.doors.map Flat.enc), (5, n5, x.trips.map Flat.enc), (5, n6, x.hazards.map Flat.enc)]
structure OwnSB (h : Heap) (lo b : Nat) (hz n1 n2 n3 vr n5 n6 : CV) (x : SheetD) : Prop where
  hz : hz = .int .i64 x.hz
  r : ∃ css, OwnRs h lo vr css x.routes ∧ OwnG h lo (flatS x n1 n2 n3 n5 n6 ++ [(4, vr, css)]) (b :: idsIn css)
variable {hz n1 n2 n3 vr n5 n6 : CV}
theorem OwnSh.box (o : OwnSh h lo hz n1 n2 n3 vr n5 n6 x) (X : Ext h h') (hlo : lo ≤ h.next) (hb : h.next ≤ b) (hl : b < h'.next) : OwnSB h' lo b hz n1 n2 n3 vr n5 n6 x := by
  obtain ⟨css, r1, r2⟩ := o.r
  refine ⟨o.hz, css, r1.ext X, OwnG.box (h := h) ⟨fun r hr => ?_, ?_, r1.idsI⟩ X hlo hb hl⟩
  · simp only [flatS, List.cons_append, List.nil_append, List.mem_cons, List.not_mem_nil, or_false] at hr
    rcases hr with rfl | rfl | rfl | rfl | rfl | rfl
    · exact o.o1
    · exact o.o2
    · exact o.o3
    · exact o.o5
    · exact o.o6
    · exact r1.1
  · have e : idsR (flatS x n1 n2 n3 n5 n6 ++ [(4, vr, css)]) ++ idsIn css = (idOf n1 ++ idOf n2 ++ idOf n3 ++ idOf n5 ++ idOf n6) ++ (idOf vr ++ idsIn css) := by
      simp [idsR, flatS]
    rw [e]
    exact (List.Perm.append_left _ List.perm_append_comm).nodup_iff.1 r2
theorem OwnSB.ext (o : OwnSB h lo b hz n1 n2 n3 vr n5 n6 x) (X : Ext h h') : OwnSB h' lo b hz n1 n2 n3 vr n5 n6 x := by
  obtain ⟨css, r1, r2⟩ := o.r
  exact ⟨o.hz, css, r1.ext X, r2.ext X⟩
theorem OwnSB.rp (o : OwnSB h lo b hz n1 n2 n3 vr n5 n6 x) : Rp.R h [hz, n1, n2, n3, vr, n5, n6] x := by
  obtain ⟨css, r1, r2⟩ := o.r
  have g : ∀ (j : Nat) {a : Nat} {v : CV} {l : List (List CV)}, (flatS x n1 n2 n3 n5 n6)[j]? = some (a, v, l) → OwnR h lo a v l := fun j {_ _ _} hm => r2.o _ (List.mem_append_left _ (List.mem_of_getElem? hm))
  refine ⟨n1, n2, n3, vr, n5, n6, by rw [o.hz], ?_, ?_, ?_, r1.toSl, ?_, ?_⟩
  · exact OwnR.toSl (α := Str) (lo := lo) (g 0 rfl)
  · exact OwnR.toSl (α := PathS) (lo := lo) (g 1 rfl)
  · exact OwnR.toSl (α := DoorS) (lo := lo) (g 2 rfl)
  · exact OwnR.toSl (α := TripS) (lo := lo) (g 3 rfl)
  · exact OwnR.toSl (α := HazS) (lo := lo) (g 4 rfl)
theorem OwnRs.stay {rs : List RowE} {css : List (List CV)} {l : List RouteS} {xs : List Nat} (r : OwnRs h lo vr css l) (g : OwnG h' lo rs xs) (hm : (4, vr, css) ∈ rs) (hn : h.next ≤ h'.next) (hx : ∀ k ∈ idsIn css, h'.get k = h.get k) : OwnRs h' lo vr css l :=
  ⟨g.o _ hm, r.2.1, fun j e d he hd => (r.2.2 j e d he hd).other hn fun k hk => hx k (List.mem_flatMap.2 ⟨e, List.mem_of_getElem? he, hk⟩)⟩
theorem OwnRws.stay2 {rs : List RowE} {css : List (List CV)} {l : List RouteW} {xs : List Nat} (r : OwnRws h lo vr css l) (g : OwnG h' lo rs xs) (hm : (3, vr, css) ∈ rs) (hn : h.next ≤ h'.next) (hx : ∀ k ∈ idsIn css, h'.get k = h.get k) : OwnRws h' lo vr css l :=
  ⟨g.o _ hm, r.2.1, fun j e d he hd => (r.2.2 j e d he hd).other hn fun k hk => hx k (List.mem_flatMap.2 ⟨e, List.mem_of_getElem? he, hk⟩)⟩
theorem OwnSB.put (o : OwnSB h lo b hz n1 n2 n3 vr n5 n6 x) (hn : h'.next = h.next) (hk : ∀ k, k ≠ b → h'.get k = h.get k) : OwnSB h' lo b hz n1 n2 n3 vr n5 n6 x := by
  obtain ⟨css, r1, r2⟩ := o.r
  obtain ⟨g, hx⟩ := r2.put hn hk
  exact ⟨o.hz, css, r1.stay g (by simp) (by omega) hx, g⟩
theorem OwnSB.stops (o : OwnSB h lo b hz n1 n2 n3 vr n5 n6 x) {l : List Str} {u : CV} (hn : h.next ≤ h'.next) (hk : ∀ k, k < h.next → k < lo ∨ idOf n1 ≠ [k] → h'.get k = h.get k) (om : OwnR h' lo 1 u (l.map Flat.enc)) (hi : idOf u = idOf n1 ∨ ∃ j, idOf u = [j] ∧ h.next ≤ j) : OwnSB h' lo b hz u n2 n3 vr n5 n6 { x with stops := l } := by
  obtain ⟨css, r1, r2⟩ := o.r
  obtain ⟨g, hx⟩ := OwnG.turn (A := []) (B := [(4, n2, x.paths.map Flat.enc), (7, n3, x.doors.map Flat.enc), (5, n5, x.trips.map Flat.enc), (5, n6, x.hazards.map Flat.enc), (4, vr, css)]) r2 hn hk om hi
  exact ⟨o.hz, css, r1.stay g (by simp) hn fun k hm => hx k (List.mem_cons_of_mem _ hm), g⟩
theorem OwnSB.paths (o : OwnSB h lo b hz n1 n2 n3 vr n5 n6 x) {l : List PathS} {u : CV} (hn : h.next ≤ h'.next) (hk : ∀ k, k < h.next → k < lo ∨ idOf n2 ≠ [k] → h'.get k = h.get k) (om : OwnR h' lo 4 u (l.map Flat.enc)) (hi : idOf u = idOf n2 ∨ ∃ j, idOf u = [j] ∧ h.next ≤ j) : OwnSB h' lo b hz n1 u n3 vr n5 n6 { x with paths := l } := by
  obtain ⟨css, r1, r2⟩ := o.r
  obtain ⟨g, hx⟩ := OwnG.turn (A := [(1, n1, x.stops.map Flat.enc)]) (B := [(7, n3, x.doors.map Flat.enc), (5, n5, x.trips.map Flat.enc), (5, n6, x.hazards.map Flat.enc), (4, vr, css)]) r2 hn hk om hi
  exact ⟨o.hz, css, r1.stay g (by simp) hn fun k hm => hx k (List.mem_cons_of_mem _ hm), g⟩
theorem OwnSB.own_paths (o : OwnSB h lo b hz n1 n2 n3 vr n5 n6 x) : OwnR h lo 4 n2 (x.paths.map Flat.enc) ∧ idOf n2 ≠ [b] := by
  obtain ⟨css, r1, r2⟩ := o.r
  have hm : ((4, n2, x.paths.map Flat.enc) : RowE) ∈ flatS x n1 n2 n3 n5 n6 ++ [(4, vr, css)] := by simp [flatS]
  exact ⟨r2.o _ hm, fun e => (List.nodup_append.1 r2.nd).2.2 b (List.mem_flatMap.2 ⟨_, hm, by rw [e]; simp⟩) b (by simp) rfl⟩
theorem OwnSB.lt (o : OwnSB h lo b hz n1 n2 n3 vr n5 n6 x) : b < h.next := by
  obtain ⟨css, r1, r2⟩ := o.r
  exact (r2.x b (by simp)).2
variable {m1 m2 m3 m4 m5 m6 p d t z : CV}
structure OwnWB (h : Heap) (lo b : Nat) (hz m1 m2 m3 m4 m5 m6 p d vr t z : CV) (w : WorldD) : Prop where
  hz : hz = .int .i64 w.hz
  r : ∃ css, OwnRws h lo vr css w.routes ∧ OwnG h lo (flatW w p d t z m1 m2 m3 m4 m5 m6 ++ [(3, vr, css)]) (b :: idsIn css)
theorem OwnWd.box (o : OwnWd h lo hz m1 m2 m3 m4 m5 m6 p d vr t z w) (X : Ext h h') (hlo : lo ≤ h.next) (hb : h.next ≤ b) (hl : b < h'.next) : OwnWB h' lo b hz m1 m2 m3 m4 m5 m6 p d vr t z w := by
  obtain ⟨css, r1, r2⟩ := o.r
  exact ⟨o.hz, css, r1.ext X, r2.box X hlo hb hl⟩
theorem OwnWB.ext (o : OwnWB h lo b hz m1 m2 m3 m4 m5 m6 p d vr t z w) (X : Ext h h') : OwnWB h' lo b hz m1 m2 m3 m4 m5 m6 p d vr t z w := by
  obtain ⟨css, r1, r2⟩ := o.r
  exact ⟨o.hz, css, r1.ext X, r2.ext X⟩
theorem OwnWB.keep (o : OwnWB h lo b hz m1 m2 m3 m4 m5 m6 p d vr t z w) (hn : h.next ≤ h'.next) (hk : ∀ k, lo ≤ k → k < h.next → h'.get k = h.get k) : OwnWB h' lo b hz m1 m2 m3 m4 m5 m6 p d vr t z w := by
  obtain ⟨css, r1, r2⟩ := o.r
  have hl := fun k hm => hk k (r2.lt k hm).1 (r2.lt k hm).2
  have g := r2.keep hn hl
  exact ⟨o.hz, css, r1.stay2 g (by simp) hn fun k hm => hl k (List.mem_append_right _ (List.mem_cons_of_mem _ hm)), g⟩
theorem OwnWB.put (o : OwnWB h lo b hz m1 m2 m3 m4 m5 m6 p d vr t z w) (hn : h'.next = h.next) (hk : ∀ k, k ≠ b → h'.get k = h.get k) : OwnWB h' lo b hz m1 m2 m3 m4 m5 m6 p d vr t z w := by
  obtain ⟨css, r1, r2⟩ := o.r
  obtain ⟨g, hx⟩ := r2.put hn hk
  exact ⟨o.hz, css, r1.stay2 g (by simp) (by omega) hx, g⟩
theorem OwnWB.lt (o : OwnWB h lo b hz m1 m2 m3 m4 m5 m6 p d vr t z w) : lo ≤ b ∧ b < h.next := by
  obtain ⟨css, r1, r2⟩ := o.r
  exact r2.x b (by simp)
theorem OwnWB.low {lo' : Nat} (o : OwnWB h lo b hz m1 m2 m3 m4 m5 m6 p d vr t z w) (hl : lo' ≤ lo) : OwnWB h lo' b hz m1 m2 m3 m4 m5 m6 p d vr t z w := by
  obtain ⟨css, r1, r2⟩ := o.r
  exact ⟨o.hz, css, r1.low hl, r2.low hl⟩
theorem OwnWB.rp (o : OwnWB h lo b hz m1 m2 m3 m4 m5 m6 p d vr t z w) : Rp.R h [hz, m1, m2, m3, m4, m5, m6, p, d, vr, t, z] w := by
  obtain ⟨css, r1, r2⟩ := o.r
  exact OwnWd.rp (lo := lo) ⟨o.hz, css, r1, r2.o, (List.nodup_append.1 r2.nd).1 |> fun h1 => List.nodup_append.2 ⟨h1, (List.nodup_cons.1 (List.nodup_append.1 r2.nd).2.1).2, fun a ha c hc => (List.nodup_append.1 r2.nd).2.2 a ha c (List.mem_cons_of_mem _ hc)⟩, fun k hk => r2.x k (List.mem_cons_of_mem _ hk)⟩
theorem OwnWB.paths (o : OwnWB h lo b hz m1 m2 m3 m4 m5 m6 p d vr t z w) {l : List PathW} {u : CV} (hn : h.next ≤ h'.next) (hk : ∀ k, k < h.next → k < lo ∨ idOf p ≠ [k] → h'.get k = h.get k) (om : OwnR h' lo 3 u (l.map Flat.enc)) (hi : idOf u = idOf p ∨ ∃ j, idOf u = [j] ∧ h.next ≤ j) : OwnWB h' lo b hz m1 m2 m3 m4 m5 m6 u d vr t z { w with paths := l } := by
  obtain ⟨css, r1, r2⟩ := o.r
  obtain ⟨g, hx⟩ := OwnG.turn (A := []) (B := [(6, d, w.doors.map Flat.enc), (4, t, w.trips.map Flat.enc), (5, z, w.hazards.map Flat.enc), (1, m1, w.names.stops.map Flat.enc), (1, m2, w.names.paths.map Flat.enc), (1, m3, w.names.doors.map Flat.enc), (1, m4, w.names.routes.map Flat.enc), (1, m5, w.names.trips.map Flat.enc), (1, m6, w.names.hazards.map Flat.enc), (3, vr, css)]) r2 hn hk om hi
  exact ⟨o.hz, css, r1.stay2 g (by simp) hn fun k hm => hx k (List.mem_cons_of_mem _ hm), g⟩
theorem OwnWB.own_paths (o : OwnWB h lo b hz m1 m2 m3 m4 m5 m6 p d vr t z w) : OwnR h lo 3 p (w.paths.map Flat.enc) ∧ idOf p ≠ [b] := by
  obtain ⟨css, r1, r2⟩ := o.r
  have hm : ((3, p, w.paths.map Flat.enc) : RowE) ∈ flatW w p d t z m1 m2 m3 m4 m5 m6 ++ [(3, vr, css)] := by simp [flatW]
  exact ⟨r2.o _ hm, fun e => (List.nodup_append.1 r2.nd).2.2 b (List.mem_flatMap.2 ⟨_, hm, by rw [e]; simp⟩) b (by simp) rfl⟩
theorem OwnWB.nstops (o : OwnWB h lo b hz m1 m2 m3 m4 m5 m6 p d vr t z w) {l : List Str} {u : CV} (hn : h.next ≤ h'.next) (hk : ∀ k, k < h.next → k < lo ∨ idOf m1 ≠ [k] → h'.get k = h.get k) (om : OwnR h' lo 1 u (l.map Flat.enc)) (hi : idOf u = idOf m1 ∨ ∃ j, idOf u = [j] ∧ h.next ≤ j) : OwnWB h' lo b hz u m2 m3 m4 m5 m6 p d vr t z { w with names := { w.names with stops := l } } := by
  obtain ⟨css, r1, r2⟩ := o.r
  obtain ⟨g, hx⟩ := OwnG.turn (A := [(3, p, w.paths.map Flat.enc), (6, d, w.doors.map Flat.enc), (4, t, w.trips.map Flat.enc), (5, z, w.hazards.map Flat.enc)]) (B := [(1, m2, w.names.paths.map Flat.enc), (1, m3, w.names.doors.map Flat.enc), (1, m4, w.names.routes.map Flat.enc), (1, m5, w.names.trips.map Flat.enc), (1, m6, w.names.hazards.map Flat.enc), (3, vr, css)]) r2 hn hk om hi
  exact ⟨o.hz, css, r1.stay2 g (by simp) hn fun k hm => hx k (List.mem_cons_of_mem _ hm), g⟩
theorem OwnWB.npaths (o : OwnWB h lo b hz m1 m2 m3 m4 m5 m6 p d vr t z w) {l : List Str} {u : CV} (hn : h.next ≤ h'.next) (hk : ∀ k, k < h.next → k < lo ∨ idOf m2 ≠ [k] → h'.get k = h.get k) (om : OwnR h' lo 1 u (l.map Flat.enc)) (hi : idOf u = idOf m2 ∨ ∃ j, idOf u = [j] ∧ h.next ≤ j) : OwnWB h' lo b hz m1 u m3 m4 m5 m6 p d vr t z { w with names := { w.names with paths := l } } := by
  obtain ⟨css, r1, r2⟩ := o.r
  obtain ⟨g, hx⟩ := OwnG.turn (A := [(3, p, w.paths.map Flat.enc), (6, d, w.doors.map Flat.enc), (4, t, w.trips.map Flat.enc), (5, z, w.hazards.map Flat.enc), (1, m1, w.names.stops.map Flat.enc)]) (B := [(1, m3, w.names.doors.map Flat.enc), (1, m4, w.names.routes.map Flat.enc), (1, m5, w.names.trips.map Flat.enc), (1, m6, w.names.hazards.map Flat.enc), (3, vr, css)]) r2 hn hk om hi
  exact ⟨o.hz, css, r1.stay2 g (by simp) hn fun k hm => hx k (List.mem_cons_of_mem _ hm), g⟩
theorem OwnWB.own_npaths (o : OwnWB h lo b hz m1 m2 m3 m4 m5 m6 p d vr t z w) : OwnR h lo 1 m2 (w.names.paths.map Flat.enc) ∧ idOf m2 ≠ [b] := by
  obtain ⟨css, r1, r2⟩ := o.r
  have hm : ((1, m2, w.names.paths.map Flat.enc) : RowE) ∈ flatW w p d t z m1 m2 m3 m4 m5 m6 ++ [(3, vr, css)] := by simp [flatW]
  exact ⟨r2.o _ hm, fun e => (List.nodup_append.1 r2.nd).2.2 b (List.mem_flatMap.2 ⟨_, hm, by rw [e]; simp⟩) b (by simp) rfl⟩
end
end Go.CM.Tt
theorem Go.CM.W.keep9 {E : Go.CM.Env} {t : Go.CM.Task} {tm : Go.CM.Tm} {h : Go.CM.Heap} {Q : Go.CM.R → Prop} (a0 a1 a2 a3 a4 a5 a6 a7 a8 : Nat) (w : ∀ T : Go.CM.Tm, T.look a0 = tm.look a0 → T.look a1 = tm.look a1 → T.look a2 = tm.look a2 → T.look a3 = tm.look a3 → T.look a4 = tm.look a4 → T.look a5 = tm.look a5 → T.look a6 = tm.look a6 → T.look a7 = tm.look a7 → T.look a8 = tm.look a8 → Go.CM.W E t T h Q) : Go.CM.W E t tm h Q := w tm rfl rfl rfl rfl rfl rfl rfl rfl rfl
