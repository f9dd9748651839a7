/- A call's arguments opened: a row of numbers; the memory that the plain machine begins with. No condition. -/
import Derived.Test.YtdcegklfbhfddaaXLg
import Derived.ChangeArms
import Derived.Lib.SmallJoins
import Derived.Carry
noncomputable section
namespace Go.CM
set_option linter.unusedVariables false
set_option linter.unusedSimpArgs false

theorem heapB_old : ∀ (bs : List (List CV)) (i : Nat) (t : Tree Blk) (j : Nat), j < i → (heapB bs i t).get j = t.get j
  | [], _, _, _, _ => rfl
  | c :: bs, i, t, j, h => by
    show (heapB bs (i + 1) (t.set i (some (.cells c true)))).get j = _
    rw [heapB_old bs (i + 1) _ j (by omega), Tree.get_set, if_neg (by omega)]
theorem heapB_at : ∀ (bs : List (List CV)) (i : Nat) (t : Tree Blk) (n : Nat) (cs : List CV), bs[n]? = some cs → (heapB bs i t).get (i + n) = some (.cells cs true)
  | [], _, _, _, _, h => by simp at h
  | c :: bs, i, t, 0, cs, h => by
    show (heapB bs (i + 1) (t.set i (some (.cells c true)))).get (i + 0) = _
    rw [heapB_old bs (i + 1) _ _ (by omega), Tree.get_set, if_pos (by omega)]
    simp at h
    rw [h]
  | c :: bs, i, t, n + 1, cs, h => by
    show (heapB bs (i + 1) (t.set i (some (.cells c true)))).get (i + (n + 1)) = _
    rw [show i + (n + 1) = (i + 1) + n by omega]
    exact heapB_at bs (i + 1) _ n cs (by simpa using h)
theorem heapOf_at {g : Nat} {rows : List (Nat × List CV)} {blks : List (List CV)} {n : Nat} {cs : List CV} (h : blks[n]? = some cs) : (heapOf g rows blks).get (g + n) = some (.cells cs true) := heapB_at blks g _ n cs h
theorem heapOf_next {g : Nat} {rows : List (Nat × List CV)} {blks : List (List CV)} : (heapOf g rows blks).next = g + blks.length := by
  show g + len blks = _
  rw [len_eq]
theorem rows_at {g r : Nat} {cs : List CV} {blks : List (List CV)} (hr : r < g) (hc : cvsEq cs cs = true) : rowsHold (heapOf g [(r, cs)] blks) [(r, cs)] = true := by
  have e : (heapOf g [(r, cs)] blks).get r = some (.cells cs true) := by
    show (heapB blks g (Tree.leaf.set r (some (.cells cs true)))).get r = _
    rw [heapB_old _ _ _ _ hr, Tree.get_set, if_pos rfl]
  unfold rowsHold
  simp only [e, rowIs, hc]
  rfl

/-- A value that is an argument's row of numbers. -/
structure IntsArg (W : World) (x : Value) (b : ArgB) (l : List Int) (mkv : Nat → CV) : Prop where
  one : ∀ i, (mkv i).one = true
  vr : ∀ (ρ : Rho) (i : Nat), ρ i = some (b.blk, b.off) → VR ρ (mkv i) x
  blk : ∃ arr ty fz, W.heap[b.blk]? = some (.cells arr ty fz) ∧ b.off + b.cs.length ≤ arr.size ∧ (∀ ρ, VRs ρ b.cs ((arr.toList.drop b.off).take b.cs.length)) ∧ ∀ c ∈ b.cs, c.one = true
  row : ∀ (h : Heap) (i : Nat), i < h.next → h.get i = some (.cells b.cs true) → SlI h (mkv i) l ∨ (mkv i = .empty ∧ l = [])

theorem open_ints {H : Type} {enc : TypeId × Value → H} {P : Program} {W : World} {t e : TypeId} {fuel : Nat} {cs : List Value} {y : DataW H × List MemPlace} {sp : Nat → Bool} {hd : Bool} (ht : P.underlying t = some (.slice e)) (he : P.underlying e = some (.int .i64)) (hc : P.cellsOf e = 1)
    (h0 : ∃ (b0 : Nat) (arr : Array Value) (ty : TypeId) (fz : Nat × Nat), W.heap[b0]? = some (Obj.cells arr ty fz)) (h : DataW.trod enc P W 0 sp hd fuel t cs = some y) : ∃ x b l mkv, cs = [x] ∧ IntsArg W x b l mkv := by
  obtain ⟨b0, arr0, ty0, fz0, hb0⟩ := h0
  rcases DataW.trod_slice ht h with ⟨rfl, rfl⟩ | ⟨a, len, cap, elems, rest, n, rfl, rfl, rfl, _, hlc, hcap, hel, hE, _, _⟩
  · refine ⟨_, ⟨b0, 0, []⟩, [], fun _ => .slice none 0 0 0, rfl, fun _ => rfl, fun ρ i _ => .nilslice 0 0 0 0 (Nat.le_refl _) (fun _ => rfl) (Nat.le_refl _) (by omega), ⟨arr0, ty0, fz0, hb0, by simp, fun ρ => VRs.nil ρ, fun c hc => by simp at hc⟩, fun h i _ _ => .inl (.inl ⟨rfl, rfl⟩)⟩
  have hm : cap ≤ 9223372036854775807 := hcap
  rcases Nat.eq_zero_or_pos len with h00 | hpos
  · refine ⟨_, ⟨b0, 0, []⟩, [], fun _ => .empty, rfl, fun _ => rfl, fun ρ i _ => ?_, ⟨arr0, ty0, fz0, hb0, by simp, fun ρ => VRs.nil ρ, fun c hc => by simp at hc⟩, fun h i _ _ => .inr ⟨rfl, rfl⟩⟩
    rw [h00]
    exact .empty a cap hm
  have hcell : ∀ i, i < len → ∃ k, W.cell? (a.add i) = some (.int .i64 k) := by
    intro i hi
    have hx := hE i hi
    rw [hc, Nat.mul_one, List.getElem?_eq_getElem (by omega)] at hx
    obtain ⟨cs', h1, h2⟩ := Option.bind_eq_some_iff.1 hx
    obtain ⟨k, rfl, _, _⟩ := DataW.trod_int he h2
    obtain ⟨_, _, h3⟩ := World.cells?_some h1
    have h4 := h3 0 (by omega)
    have e0 : (a.add i).add 0 = a.add i := by unfold Addr.add; simp
    rw [e0] at h4
    exact ⟨k, by rw [h4]; rfl⟩
  obtain ⟨k0, hk0⟩ := hcell 0 hpos
  have ea : a.add 0 = a := by unfold Addr.add; simp
  rw [ea] at hk0
  obtain ⟨blk, off, spot⟩ := a
  obtain ⟨arr, ty, fz, hw, hsp, _⟩ : ∃ arr ty fz, W.heap[blk]? = some (.cells arr ty fz) ∧ spot = none ∧ arr[off]? = some (.int .i64 k0) := by
    unfold World.cell? at hk0
    cases hh : W.heap[blk]? with
    | none => rw [hh] at hk0; cases hk0
    | some o =>
      rw [hh] at hk0
      cases o with
      | cells arr ty fz =>
        simp only at hk0
        cases spot with
        | none => exact ⟨arr, ty, fz, rfl, rfl, by simpa using hk0⟩
        | some s => simp at hk0
      | _ => cases hk0
  subst hsp
  have hat : ∀ i, i < len → ∃ k, arr[off + i]? = some (.int .i64 k) := by
    intro i hi
    obtain ⟨k, hk⟩ := hcell i hi
    refine ⟨k, ?_⟩
    have e : (Addr.mk blk off none).add i = ⟨blk, off + i, none⟩ := mk_add blk off i
    rw [e] at hk
    unfold World.cell? at hk
    rw [hw] at hk
    simpa using hk
  obtain ⟨l, hll, hl⟩ : ∃ l : List Int, l.length = len ∧ ∀ i k, l[i]? = some k → arr[off + i]? = some (.int .i64 k) := by
    refine ⟨(List.range len).map fun i => RowKit.intOf ((arr[off + i]?).getD undef), by simp, fun i k hk => ?_⟩
    rw [List.getElem?_map, Option.map_eq_some_iff] at hk
    obtain ⟨j, hj, rfl⟩ := hk
    have hjl : i < len := by
      obtain ⟨h1, _⟩ := List.getElem?_eq_some_iff.1 hj
      simpa using h1
    rw [List.getElem?_range hjl] at hj
    cases hj
    obtain ⟨k, hk⟩ := hat i hjl
    rw [hk]; rfl
  have hsz : off + len ≤ arr.size := by
    obtain ⟨k, hk⟩ := hat (len - 1) (by omega)
    obtain ⟨h1, _⟩ := Array.getElem?_eq_some_iff.1 hk
    omega
  have hone : ∀ c ∈ l.map (CV.int .i64), c.one = true := by
    intro c hc
    obtain ⟨k, _, rfl⟩ := List.mem_map.1 hc
    rfl
  refine ⟨_, ⟨blk, off, l.map (CV.int .i64)⟩, l, fun i => .slice (some (i, 0)) len cap 0, rfl, fun _ => rfl, fun ρ i hi => ?_, ⟨arr, ty, fz, hw, by simp only [List.length_map]; omega, fun ρ => ?_, hone⟩, fun h i hi hg => .inl (.inr ⟨i, 0, cap, 0, _, true, by rw [hll], hi, hg, fun j k hj => ?_⟩)⟩
  · exact VR.slice i 0 len cap 0 blk off cap hi (Nat.le_refl _) (fun _ => rfl) (fun h => absurd rfl h) hlc hm
  · refine ⟨by simp only [List.length_take, List.length_drop, List.length_map, Array.length_toList]; omega, fun i hi => ?_⟩
    have hi : i < l.length := by simpa using hi
    have hx := hl i l[i] (List.getElem?_eq_getElem hi)
    have e1 : (l.map (CV.int .i64)).getD i .undef = .int .i64 l[i] := by simp [List.getD_eq_getElem?_getD, hi]
    have e2 : ((arr.toList.drop off).take (l.map (CV.int .i64)).length).getD i undef = .int .i64 l[i] := by
      rw [List.getD_eq_getElem?_getD, List.getElem?_take, if_pos (by simpa using hi), List.getElem?_drop, Array.getElem?_toList, hx]; rfl
    rw [e1, e2]
    exact .int _ _
  · rw [nth_eq, List.getElem?_map, show 0 + j * 1 = j by omega, hj]; rfl

/-- Arguments that read as they did: nothing that was there has turned. -/
theorem trodAll_keep {H : Type} {enc : TypeId × Value → H} {P : Program} (hl : laidOutB P = true) {W W' : World} (k : Keep (fun _ => False) W W') : ∀ (ts : List TypeId) (vs : List Value) (ds : List (DataW H)) (ps : List MemPlace),
    ts.all (fun t => P.readableRec t && decide (t < P.types.size)) = true → DataW.TrodAll enc P W 0 (fun _ => true) true ts vs ds ps → (∀ p ∈ ps, p.block < W.heap.size) → DataW.TrodAll enc P W' 0 (fun b => decide (b < W.heap.size)) true ts vs ds ps
  | [], [], [], ps, _, h, _ => h
  | t :: ts, v :: vs, d :: ds, ps, hr, h, hlt => by
    obtain ⟨p, q, h1, h2, rfl⟩ := h
    rw [List.all_cons, Bool.and_eq_true, Bool.and_eq_true] at hr
    refine ⟨p, q, ?_, trodAll_keep hl k ts vs ds q hr.2 h2 (fun x hx => hlt x (List.mem_append_right _ hx)), rfl⟩
    have hB : RowKit.Below W.heap.size W { W' with tape := W.tape } := ⟨k.os, rfl, k.out, k.size, fun i hi => k.same i hi (fun h => h)⟩
    obtain ⟨fuel, hf⟩ := RowKit.Below.trod hl hr.1.1 (of_decide_eq_true hr.1.2) h1 hB (fun x hx => hlt x (List.mem_append_left _ hx))
    exact ⟨fuel, by rw [← hf]; exact DataW.trod_heap (w := W') (w' := { W' with tape := W.tape }) rfl fuel t _⟩
  | [], _ :: _, _, _, _, h, _ => h.elim
  | [], [], _ :: _, _, _, h, _ => h.elim
  | _ :: _, [], _, _, _, h, _ => h.elim
  | _ :: _, _ :: _, [], _, _, h, _ => h.elim

/-- A law with parameters: its row's condition on what is left behind: it says true, the arguments read as they did. -/
theorem post_inputs {H : Type} {enc : TypeId × Value → H} {P : Program} {f : Func} {s : ChangeSpec} {apart fresh handsOn : Bool} {w w' : World} {args : Array Value} {ds gs : List (DataW H)} {before : List MemPlace} {t : TypeId} (hl : laidOutB P = true)
    (hr : f.params.toList.all (fun t => P.readableRec t && decide (t < P.types.size)) = true)
    (hW : DataW.Whole enc P f.params.toList s.vars apart w args.toList ds gs before) (hvs : s.vars = []) (hrt : f.resultTypes.toList = [t]) (hrs : f.resultTypes.size = 1) (ht : P.underlying t = some .bool)
    (hs : s.fn H ds = { results := [.lit (.bool true)], args := ds }) (k : Keep (fun _ => False) w w') : s.post enc P f apart fresh handsOn false w args (.bool true) w' := by
  have hlt := hW.lt
  have hW' := hW
  rw [hvs] at hW
  obtain ⟨p, q, h1, h2, rfl, _, _⟩ := hW
  obtain ⟨rfl, rfl⟩ := ChangeShapes.trodVars_none h2
  refine ⟨ds, [], _, [], p, [], hW', ?_, ?_, ?_, kept_of_keep (fun _ h => h) k _, fun e => by cases e⟩
  · rw [hrt, hrs, List.append_nil, hs]
    exact ChangeShapes.trodAll_mk1 (RowKit.shut_bool ht true)
  · rw [List.append_nil, hs]
    exact trodAll_keep hl k _ _ _ _ hr h1 (fun x hx => hlt x (List.mem_append_left _ hx))
  · rw [hvs, List.append_nil, hs]
    rfl
end Go.CM
