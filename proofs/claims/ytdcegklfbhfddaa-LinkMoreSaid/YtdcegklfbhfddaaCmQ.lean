/- Drawn regions: what an operation touches. No condition. -/
import Derived.Test.YtdcegklfbhfddaaCmP
noncomputable section
namespace Go.CM
set_option linter.unusedVariables false
set_option linter.unusedSimpArgs false

section
variable {E : Env} {f : Operand → CV} {h h' : Heap} {v : CV}

/-- A memory that is another one, but for ids of a list and new ones. -/
structure Touch (l : List Nat) (h h' : Heap) : Prop where
  next : h.next ≤ h'.next
  same : ∀ k, k ∉ l → ¬ (h.next ≤ k ∧ k < h'.next) → h'.get k = h.get k
  made : ∀ k, h.next ≤ k → k < h'.next → h'.get k ≠ none

theorem Touch.refl (h : Heap) : Touch [] h h := ⟨Nat.le_refl _, fun _ _ _ => rfl, fun k h1 h2 => by omega⟩
theorem Touch.new (h : Heap) (b : Blk) : Touch [] h (h.new b) := ⟨Nat.le_succ _, fun k _ hk => by
  rw [Heap.get_new, if_neg]
  intro e
  exact hk ⟨by omega, by show k < h.next + 1; omega⟩, fun k h1 h2 => by
  have h2 : k < h.next + 1 := h2
  rw [Heap.get_new, if_pos (by omega)]; simp⟩
theorem Touch.put (h : Heap) (i : Nat) (b : Blk) : Touch [i] h (h.put i b) := ⟨Nat.le_refl _, fun k hk _ => by
  rw [Heap.get_put, if_neg]
  intro e
  exact hk (by simp [e]), fun k h1 h2 => by
  have h2 : k < h.next := h2
  omega⟩
theorem Touch.del_new (h : Heap) (i : Nat) (b : Blk) : Touch [i] h ((h.del i).new b) := ⟨Nat.le_succ _, fun k hk hn => by
  have e1 : h.next ≠ k := by
    intro e
    exact hn ⟨by omega, by show k < h.next + 1; omega⟩
  have e2 : i ≠ k := by
    intro e
    exact hk (by simp [e])
  rw [Heap.get_new]
  show (if h.next = k then _ else (h.del i).get k) = _
  rw [if_neg e1, Heap.get_del, if_neg e2], fun k h1 h2 => by
  have h2 : k < h.next + 1 := h2
  rw [Heap.get_new]
  show (if h.next = k then _ else _) ≠ none
  rw [if_pos (by omega)]; simp⟩
theorem Touch.mono {l l' : List Nat} (t : Touch l h h') (s : ∀ k, k ∈ l → k ∈ l') : Touch l' h h' := ⟨t.next, fun k hk hn => t.same k (fun hh => hk (s k hh)) hn, t.made⟩

theorem withH_touch {r : Option CV} (e : withH h r = some (v, h')) : Touch [] h h' := by
  obtain ⟨_, e⟩ := withH_some e
  simp only at e
  subst e; exact .refl _
theorem newPtr_touch {cs : Option (List CV)} (e : newPtr h cs = some (v, h')) : Touch [] h h' := by
  obtain ⟨l, _, e⟩ := newPtr_some e
  cases e; exact .new _ _
theorem newSl_touch {n c : Nat} {cs : Option (List CV)} (e : newSl h n c cs = some (v, h')) : Touch [] h h' := by
  obtain ⟨l, _, e⟩ := newSl_some e
  cases e; exact .new _ _
theorem putCells_touch {i off : Nat} {vs : List CV} (e : putCells h i off vs = some h') : Touch [i] h h' := by
  unfold putCells at e
  split at e
  · simp only [Option.map_eq_some_iff] at e
    obtain ⟨_, _, rfl⟩ := e
    exact .put _ _ _
  · cases e

theorem mapUpd_touch {s : Option TyS} {m k x : CV} (e : oMapUpd E s m k x h = some (v, h')) : Touch (idOf m) h h' := by
  unfold oMapUpd at e
  split at e
  · split at e
    · split at e
      · split at e
        · rename_i r
          split at e
          · split at e
            · cases e; exact .put _ _ _
            · cases e; exact .put _ _ _
            · cases e
          · cases e
        · cases e
      · cases e
    · cases e
  · cases e
theorem mapEntry_touch {s : Option TyS} {m k : CV} (e : oMapEntry E s m k h = some (v, h')) : Touch (idOf m) h h' := by
  unfold oMapEntry at e
  split at e
  · split at e
    · split at e
      · split at e
        · rename_i r
          split at e
          · split at e
            · split at e
              · cases e; exact .put _ _ _
              · cases e
            · split at e
              · cases e; exact .put _ _ _
              · cases e
            · cases e
          · cases e
        · cases e
      · cases e
    · cases e
  · cases e
theorem entryStore_touch {m k x : CV} (e : oEntryStore m k x h = some (v, h')) : Touch (idOf m) h h' := by
  unfold oEntryStore at e
  split at e
  · split at e
    · split at e
      · split at e
        · cases e; exact .put _ _ _
        · cases e
      · cases e
    · cases e
  · cases e

/-- An operation touches its footprint where it writes, and what it makes. -/
theorem opVal_touch {o : Op} (e : opVal E o f h = some (v, h')) : Touch (match wrOf o with | true => fpOf o f | false => []) h h' := by
  unfold opVal at e
  split at e
  · cases e; exact .refl _
  · cases e; exact .refl _
  · unfold oPick at e
    split at e
    · split at e <;> (cases e; exact .refl _)
    · cases e
  · exact newPtr_touch e
  · exact newPtr_touch e
  · unfold oBuild at e
    split at e
    · split at e
      · split at e
        · exact withH_touch e
        · cases e
      · split at e
        · exact withH_touch e
        · cases e
      · cases e
    · cases e
  · unfold oBuildSlice at e
    split at e
    · split at e
      · split at e
        · split at e
          · exact newSl_touch e
          · cases e
        · cases e
      · cases e
    · cases e
  · unfold oLoad at e
    split at e
    · exact withH_touch e
    · cases e
  · rename_i t a vv
    unfold oStore ofH at e
    split at e
    · rename_i p hp
      split at e
      · rename_i h2 hs
        cases e
        unfold store storeV at hs
        split at hs
        · split at hs
          · split at hs
            · refine (putCells_touch hs).mono fun k hk => ?_
              simp only [wrOf, fpOf, hp, idOf]
              exact hk
            · cases hs
          · cases hs
        · cases hs
      · cases e
    · cases e
  · unfold oNil at e
    split at e <;> first | (cases e; exact .refl _) | cases e
  · exact withH_touch e
  · exact withH_touch e
  · unfold oConvert at e
    split at e
    · split at e
      · split at e
        · split at e
          · cases e; exact .refl _
          · cases e
        · split at e
          · cases e; exact .refl _
          · split at e
            · split at e
              · split at e
                · cases e; exact .refl _
                · split at e
                  · exact withH_touch e
                  · cases e
              · cases e
            · cases e
          · cases e
        · cases e
      · cases e
    · cases e
  · unfold oMakeIface at e
    split at e
    · split at e
      · cases e
      · cases e; exact .refl _
    · cases e
  · cases e; exact .refl _
  · cases e; exact .new _ _
  · unfold oMakeSlice at e
    split at e
    · split at e
      · split at e
        · split at e
          · split at e
            · split at e
              · split at e
                · split at e
                  · exact newSl_touch e
                  · cases e
                · cases e
              · cases e
            · cases e
          · cases e
        · cases e
      · cases e
    · cases e
  · exact withH_touch e
  · unfold oFieldAddr at e
    split at e
    · split at e
      · split at e
        · cases e; exact .refl _
        · cases e
      · cases e
    · cases e
  · unfold oField at e
    split at e
    · split at e
      · split at e
        · exact withH_touch e
        · cases e
      · cases e
    · cases e
  · unfold oIndexAddr at e
    have at0 : ∀ {i o : Nat} {z p : Option Nat}, addrAt i o z p h = some (v, h') → Touch [] h h' := by
      intro i o z p e
      unfold addrAt at e
      split at e
      · split at e
        · cases e; exact .refl _
        · cases e
      · cases e
    split at e
    · split at e
      · split at e
        · split at e
          · exact at0 e
          · cases e
        · split at e
          · exact at0 e
          · cases e
        · cases e
      · cases e
    · cases e
  · unfold oIndex at e
    split at e
    · split at e
      · split at e
        · split at e
          · split at e
            · split at e
              · exact withH_touch e
              · cases e
            · cases e
          · cases e
        · split at e
          · split at e
            · split at e
              · cases e; exact .refl _
              · cases e
            · cases e
          · cases e
        · cases e
      · cases e
    · cases e
  · exact withH_touch e
  · unfold oAssert at e
    split at e
    · split at e
      · cases e
      · split at e
        · split at e
          · cases e; exact .refl _
          · split at e
            · exact withH_touch e
            · cases e
        · split at e
          · exact withH_touch e
          · cases e
        · cases e
    · cases e
  · exact withH_touch e
  · exact mapUpd_touch e
  · exact mapUpd_touch e
  · exact mapEntry_touch e
  · exact entryStore_touch e
  · cases e

theorem append0_touch {es : TyS} {s x : CV} (e : oAppend0 h es s x = some (v, h')) : Touch [] h h' := by
  unfold oAppend0 at e
  split at e
  · split at e
    · split at e
      · split at e
        · split at e
          · split at e
            · cases e
            · split at e
              · cases e; exact .new _ _
              · cases e
          · cases e
        · cases e
      · cases e
    · cases e
  · cases e

theorem append_touch {ts t2 : Option TyS} {s x : CV} (e : oAppend E h ts t2 s x = some (v, h')) : Touch (idOf s) h h' := by
  unfold oAppend at e
  split at e
  · split at e
    · split at e
      · rename_i base n cap ex
        split at e
        · split at e
          · cases e
          · split at e
            · split at e
              · exact (append0_touch e).mono fun k hk => by cases hk
              · split at e
                · split at e
                  · unfold appendAt at e
                    split at e
                    · split at e
                      · cases e; exact (Touch.refl _).mono fun k hk => by cases hk
                      · split at e
                        · cases e; exact (Touch.refl _).mono fun k hk => by cases hk
                        · split at e
                          · rename_i h2 hp
                            cases e
                            exact putCells_touch hp
                          · cases e
                    · split at e
                      · split at e
                        · unfold growTo at e
                          split at e
                          · cases e; exact (Touch.new _ _).mono fun k hk => by cases hk
                          · split at e
                            · split at e
                              · split at e
                                · cases e; exact .del_new _ _ _
                                · cases e
                              · cases e
                            · cases e
                        · cases e
                      · cases e
                  · cases e
                · cases e
            · cases e
        · cases e
      · cases e
    · cases e
  · cases e

theorem copy_touch {ts : Option TyS} {s x : CV} (e : oCopy E h ts s x = some (v, h')) : Touch (idOf s) h h' := by
  unfold oCopy at e
  split at e
  · split at e
    · split at e
      · split at e
        · split at e
          · split at e
            · cases e; exact (Touch.refl _).mono fun k hk => by cases hk
            · split at e
              · split at e
                · cases e
                · split at e
                  · rename_i h2 hp
                    cases e
                    exact putCells_touch hp
                  · cases e
              · cases e
          · cases e
        · cases e
      · split at e
        · split at e
          · cases e; exact (Touch.refl _).mono fun k hk => by cases hk
          · cases e
        · cases e
      · cases e
    · cases e
  · cases e

theorem clear_touch {ts : Option TyS} {x : CV} (e : oClear E h ts x = some (v, h')) : Touch (idOf x) h h' := by
  unfold oClear at e
  split at e
  · split at e
    · split at e
      · cases e; exact (Touch.refl _).mono fun k hk => by cases hk
      · cases e; exact (Touch.refl _).mono fun k hk => by cases hk
      · split at e
        · cases e; exact (Touch.refl _).mono fun k hk => by cases hk
        · split at e
          · split at e
            · rename_i h2 hp
              cases e
              exact putCells_touch hp
            · cases e
          · cases e
      · cases e
    · cases e
  · cases e

theorem delete_touch {ts : Option TyS} {x y : CV} (e : oDelete E h ts x y = some (v, h')) : Touch (idOf x) h h' := by
  unfold oDelete at e
  split at e
  · split at e
    · split at e
      · split at e
        · cases e; exact (Touch.refl _).mono fun k hk => by cases hk
        · split at e
          · split at e
            · cases e; exact Touch.put _ _ _
            · cases e; exact Touch.put _ _ _
            · cases e
          · cases e
        · cases e
      · cases e
    · cases e
  · cases e

theorem builtin_touch {b : Builtin} {args : Array Operand} {tys : Array TypeId} (e : builtinV E h b tys.toList (args.toList.map f) = some (v, h')) :
    Touch (match wrOf (.call { callee := .builtin b, args := args, argTypes := tys }) with | true => fpOf (.call { callee := .builtin b, args := args, argTypes := tys }) f | false => []) h h' := by
  have hfp : (match wrOf (.call { callee := .builtin b, args := args, argTypes := tys }) with | true => fpOf (.call { callee := .builtin b, args := args, argTypes := tys }) f | false => []) = (match wrOf (.call { callee := .builtin b, args := args, argTypes := tys }) with | true => ((args.toList.map f).map idOf).flatten | false => []) := by
    cases b <;> simp only [wrOf, fpOf, List.map_map, Function.comp_def]
  rw [hfp]
  generalize args.toList.map f = vs at e
  unfold builtinV at e
  split at e
  · split at e
    · split at e
      · exact withH_touch e
      · cases e
    · cases e
  · split at e
    · split at e
      · refine (append_touch e).mono fun k hk => ?_
        simp only [wrOf, List.map_cons, List.flatten_cons]
        exact List.mem_append_left _ hk
      · cases e
    · cases e
  · split at e
    · split at e
      · refine (copy_touch e).mono fun k hk => ?_
        simp only [wrOf, List.map_cons, List.flatten_cons]
        exact List.mem_append_left _ hk
      · cases e
    · cases e
  · split at e
    · exact withH_touch e
    · cases e
  · split at e
    · exact withH_touch e
    · cases e
  · split at e
    · split at e
      · exact withH_touch e
      · cases e
    · cases e
  · split at e
    · split at e
      · refine (clear_touch e).mono fun k hk => ?_
        simp only [wrOf, List.map_cons, List.flatten_cons]
        exact List.mem_append_left _ hk
      · cases e
    · cases e
  · split at e
    · split at e
      · refine (delete_touch e).mono fun k hk => ?_
        simp only [wrOf, List.map_cons, List.flatten_cons]
        exact List.mem_append_left _ hk
      · cases e
    · cases e
  · cases e

/- Parts of memories. -/
theorem only_next (h : Heap) : ∀ l, (only h l).next = h.next
  | [] => rfl
  | _ :: _ => rfl
theorem only_get (h : Heap) : ∀ (l : List Nat) (k : Nat), (only h l).get k = if k ∈ l then h.get k else none
  | [], k => by simp [only, Heap.get, Tree.get_leaf]
  | i :: l, k => by
    show ((only h l).t.set i (h.get i)).get k = _
    rw [Tree.get_set]
    by_cases e : i = k
    · subst e; simp
    · rw [if_neg e]
      have : (only h l).t.get k = (only h l).get k := rfl
      rw [this, only_get h l k]
      simp [Ne.symm e]
theorem without_next (h : Heap) : ∀ l, (without h l).next = h.next
  | [] => rfl
  | _ :: l => without_next h l
theorem without_get (h : Heap) : ∀ (l : List Nat) (k : Nat), (without h l).get k = if k ∈ l then none else h.get k
  | [], k => by simp [without]
  | i :: l, k => by
    show ((without h l).del i).get k = _
    rw [Heap.get_del]
    by_cases e : i = k
    · subst e; simp
    · rw [if_neg e, without_get h l k]
      simp [Ne.symm e]
theorem back_next (h d : Heap) : ∀ l, (back h d l).next = d.next
  | [] => rfl
  | _ :: _ => rfl
theorem back_get (h d : Heap) : ∀ (l : List Nat) (k : Nat), (back h d l).get k = if k ∈ l then d.get k else h.get k
  | [], k => by simp [back, Heap.get]
  | i :: l, k => by
    show ((back h d l).t.set i (d.get i)).get k = _
    rw [Tree.get_set]
    by_cases e : i = k
    · subst e; simp
    · rw [if_neg e]
      have : (back h d l).t.get k = (back h d l).get k := rfl
      rw [this, back_get h d l k]
      simp [Ne.symm e]
theorem mem_span (lo : Nat) : ∀ (n k : Nat), k ∈ span lo n ↔ lo ≤ k ∧ k < lo + n
  | 0, k => by
    have : span lo 0 = [] := rfl
    rw [this]; simp
  | n + 1, k => by
    have : span lo (n + 1) = (lo + n) :: span lo n := rfl
    rw [this, List.mem_cons, mem_span lo n k]
    omega
theorem mem_iff (i : Nat) : ∀ l, mem i l = true ↔ i ∈ l
  | [] => by simp [mem]
  | j :: l => by
    unfold mem
    cases hb : Nat.beq i j with
    | true => simp [Nat.eq_of_beq_eq_true hb]
    | false =>
      have hne : i ≠ j := by intro e; subst e; rw [Nat.beq_refl] at hb; cases hb
      simp only [List.mem_cons, hne, false_or]
      exact mem_iff i l
theorem all1_iff (p : Nat → Bool) : ∀ l, all1 l p = true ↔ ∀ k ∈ l, p k = true
  | [] => by simp [all1]
  | i :: l => by
    have : all1 (i :: l) p = match p i with | true => all1 l p | false => false := rfl
    rw [this]
    cases hp : p i with
    | true =>
      simp only [List.mem_cons, forall_eq_or_imp, hp, true_and]
      exact all1_iff p l
    | false => simp [hp]
theorem within_iff (i lo hi : Nat) : within i lo hi = true ↔ lo ≤ i ∧ i < hi := by
  unfold within
  rw [Bool.and_eq_true, Nat.ble_eq, Nat.blt_eq]
theorem isNo_iff (b : Option Blk) : isNo b = true ↔ b = none := by cases b <;> simp [isNo]

end
end Go.CM
