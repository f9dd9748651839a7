/- Tables out of a program, and what a closed call of a law comes to. No condition. -/
import Derived.Test.YtklolghdoimgcaaGreatDoorCmV
import Derived.ChangeShapes
import Derived.OpenShut
import Derived.RowKit
import Derived.FnData
import Derived.MakeChecks
import GoSem.ClaimJoined
noncomputable section
namespace Go.CM
set_option linter.unusedVariables false
set_option linter.unusedSimpArgs false

def tab {α : Type} (f : Nat → Option α) (n : Nat) : Tree α := Nat.rec .leaf (fun k t => t.set k (f k)) n
theorem tab_get {α : Type} (f : Nat → Option α) : ∀ (n i : Nat), (tab f n).get i = if i < n then f i else none
  | 0, i => by rw [if_neg (Nat.not_lt_zero i)]; exact Tree.get_leaf i
  | n + 1, i => by
    show ((tab f n).set n (f n)).get i = _
    rw [Tree.get_set, tab_get f n i]
    by_cases h : n = i
    · subst h; simp
    · rw [if_neg h]
      by_cases h2 : i < n
      · rw [if_pos h2, if_pos (by omega)]
      · rw [if_neg h2, if_neg (by omega)]

/-- May a type's values be held against each other as wholes? -/
def cmpB (P : Program) (t : TypeId) : Bool := match P.info? t with
  | some i => i.comparable && (!P.stoodInHeld t && !P.eqGuardType P.depth t)
  | none => false
def tyRow (P : Program) (cs : List Nat) (t : Nat) : Option TyS := match mem t cs with
  | true => match cmpB P t with
    | true => tyOf P t true
    | false => tyOf P t false
  | false => tyOf P t false
def fnGood (fn : Func) : Bool := !(fn.name == "runtime.NumGoroutine") && match fn.body with
  | some c => dstsOk fn.ntmps c
  | none => true
def fnRow (P : Program) (fs : List Nat) (f : Nat) : Option FnS := match mem f fs with
  | true => match P.funcs[f]? with
    | some fn => some ⟨fn.ntmps, fn.results.toList, fn.body⟩
    | none => none
  | false => none
/-- The tables: of n types; those of cs may be held against each other; the functions of fs. -/
def envOf (P : Program) (n : Nat) (cs : List Nat) (m : Nat) (fs : List Nat) (g : Nat) (kn : List KE) (rows : List (Nat × List CV)) : Env := ⟨(tab (tyRow P cs) n).get, (tab (fnRow P fs) m).get, g, kn, rows⟩
def rowsGood (g : Nat) (rows : List (Nat × List CV)) : Bool := rows.all fun r => Nat.blt r.1 g && r.2.all CV.plain
def fnsGood (P : Program) (fs : List Nat) : Bool := fs.all fun f => match P.funcs[f]? with
  | some fn => fnGood fn
  | none => true

theorem mem_of {i : Nat} : ∀ {l : List Nat}, mem i l = true → i ∈ l
  | [], h => by cases h
  | j :: r, h => by
    unfold mem at h
    cases hb : Nat.beq i j with
    | true => rw [Nat.eq_of_beq_eq_true hb]; simp
    | false => rw [hb] at h; exact List.mem_cons_of_mem _ (mem_of h)
theorem tyOf_cmp {P : Program} {t : TypeId} {c : Bool} {s : TyS} (h : tyOf P t c = some s) : s.cmp = c := by
  unfold tyOf at h
  split at h
  · split at h
    · split at h
      · split at h
        · rw [← Option.some.inj h]
        · cases h
      · cases h
    · cases h
  · cases h
theorem cmpB_ok {P : Program} {t : TypeId} (h : cmpB P t = true) : CmpOk P t := by
  unfold cmpB at h
  split at h
  · rename_i i hi
    simp only [Bool.and_eq_true, Bool.not_eq_true'] at h
    refine ⟨fun j hj => ?_, h.2.1, h.2.2⟩
    rw [hi] at hj
    cases hj
    exact h.1
  · cases h

theorem envW_of {P : Program} {n m g : Nat} {cs fs : List Nat} {kn : List KE} {rows : List (Nat × List CV)} (hf : fnsGood P fs = true) (hm : P.follows .mixedOrders = true) (hr : rowsGood g rows = true) (hk : ∀ e ∈ kn, KnownOk P g rows e) :
    EnvW P (envOf P n cs m fs g kn rows) := by
  have row : ∀ f s, (envOf P n cs m fs g kn rows).fn f = some s → ∃ fn, P.funcs[f]? = some fn ∧ s = ⟨fn.ntmps, fn.results.toList, fn.body⟩ ∧ fnGood fn = true := by
    intro f s h
    have h : (tab (fnRow P fs) m).get f = some s := h
    rw [tab_get] at h
    split at h
    · unfold fnRow at h
      split at h
      · rename_i hmem
        split at h
        · rename_i fn hfn
          refine ⟨fn, hfn, (Option.some.inj h).symm, ?_⟩
          have := List.all_eq_true.1 hf f (mem_of hmem)
          rw [hfn] at this
          exact this
        · cases h
      · cases h
    · cases h
  refine ⟨⟨fun t s h => ?_, fun f s h => ?_⟩, fun f s c h hb => ?_, fun f s fn h hfn => ?_, hm, hk, fun r hm => ?_⟩
  · have h : (tab (tyRow P cs) n).get t = some s := h
    rw [tab_get] at h
    split at h
    · unfold tyRow at h
      split at h
      · split at h
        · rename_i hc
          have := tyOf_cmp h
          rw [this]
          exact ⟨h, fun _ => cmpB_ok hc⟩
        · have := tyOf_cmp h
          rw [this]
          exact ⟨h, fun e => by cases e⟩
      · have := tyOf_cmp h
        rw [this]
        exact ⟨h, fun e => by cases e⟩
    · cases h
  · obtain ⟨fn, h1, rfl, _⟩ := row f s h
    exact ⟨fn, h1, rfl, rfl, rfl⟩
  · obtain ⟨fn, h1, rfl, h2⟩ := row f s h
    unfold fnGood at h2
    rw [Bool.and_eq_true] at h2
    have hb : fn.body = some c := hb
    rw [hb] at h2
    exact h2.2
  · obtain ⟨fn', h1, rfl, h2⟩ := row f s h
    rw [h1] at hfn
    cases hfn
    unfold fnGood at h2
    rw [Bool.and_eq_true] at h2
    simpa using h2.1
  · have := List.all_eq_true.1 hr r hm
    rw [Bool.and_eq_true] at this
    exact ⟨by have := this.1; rw [Nat.blt_eq] at this; exact this, this.2⟩

def R.isTrue : R → Bool
  | .val (.bool b) _ => b
  | _ => false
theorem isTrue_of {r : R} (h : r.isTrue = true) : ∃ h', r = .val (.bool true) h' := by
  unfold R.isTrue at h
  split at h
  · subst h; exact ⟨_, rfl⟩
  · cases h

theorem hr0 {w : World} {g : Nat} {rows : List (Nat × List CV)} (hg : g ≤ w.heap.size) (hrows : ∀ r ∈ rows, r.1 < g) (h : RowsAt w rows (rho0 g)) : HR (rho0 g) (memOf g rows) w := by
  have get : ∀ i b, (memOf g rows).get i = some b → ∃ cs, (i, cs) ∈ rows ∧ b = .cells cs true := by
    intro i b hb
    rcases memOf_get g rows .leaf i b hb with h | h
    · exact h
    · rw [Tree.get_leaf] at h; cases h
  have loc : ∀ i k d, rho0 g i = some (k, d) → i < g ∧ k = i ∧ d = 0 := by
    intro i k d hi
    have hi : (if i < g then some (i, 0) else none) = some (k, d) := hi
    split at hi
    · cases hi; exact ⟨by assumption, rfl, rfl⟩
    · cases hi
  refine ⟨fun i b hb => ?_, fun i j k d e _ _ _ _ _ h1 h2 => ?_, fun i hi => ?_, fun i k d hi => ?_⟩
  · obtain ⟨cs, hm, rfl⟩ := get i b hb
    obtain ⟨arr, ty, fz, h1, h2, h3, h4⟩ := h _ hm
    have hlt := hrows _ hm
    refine ⟨i, 0, by show (if i < g then some (i, 0) else none) = _; rw [if_pos hlt], arr, ty, fz, h1, ⟨by simpa using h2, Nat.zero_le _⟩, by simpa using h3, h4, fun e => by cases e⟩
  · obtain ⟨_, e1, _⟩ := loc _ _ _ h1
    obtain ⟨_, e2, _⟩ := loc _ _ _ h2
    omega
  · have : ¬ i < g := Nat.not_lt.2 hi
    show (if i < g then some (i, 0) else none) = none
    rw [if_neg this]
  · obtain ⟨h1, rfl, _⟩ := loc _ _ _ hi
    omega

theorem kept_of_keep {L : Nat → Prop} {w w' : World} (hL : ∀ b, ¬ L b) (k : Keep L w w') (may : MemPlace → Prop) : w.keptBut w' may := by
  refine ⟨k.os, k.out, fun i hi => ?_⟩
  rw [k.same i hi (hL i)]
  have hs : ∃ o, w.heap[i]? = some o := ⟨w.heap[i], by simp [hi]⟩
  obtain ⟨o, ho⟩ := hs
  rw [ho]
  cases o <;> simp

/-- What a call comes to that the plain machine answers with something plain. -/
theorem run_closed {P : Program} {E : Env} {m : Nat} {f : FuncId} {vs : List CV} {blks : List (List CV)} {v : CV} {h' : Heap} (W : EnvW P E) (hrun : run E m (.call (.fn f [] []) vs) .leaf (heapOf E.globs E.rows blks) = .val v h') (hv : v.plain = true)
    {w : World} {ρ : Rho} {xs : List Value} (hH : HR ρ (heapOf E.globs E.rows blks) w) (hg : ∀ i, i < E.globs → ρ i = some (i, 0)) (hx : VRs ρ vs xs) : Calls P f xs.toArray w fun e w' => ∃ x, e = .returned x ∧ VR (rho0 E.globs) v x ∧ Keep (fun _ => False) w w' := by
  have g : GR E ρ (heapOf E.globs E.rows blks) := ⟨hg, Nat.le_add_right _ _⟩
  have := (sound W m).call f [] [] vs (heapOf E.globs E.rows blks) (by rw [hrun]; simp) ρ w xs hH g (by simpa using hx)
  rw [hrun] at this
  refine this.mono fun e w' p => ?_
  obtain ⟨x, ρ', rfl, j, hvr⟩ := p
  exact ⟨x, rfl, hvr.plain hv, j.keep.os, j.keep.out, j.keep.size, fun b hb _ => j.keep.same b hb heapOf_ro⟩

def R.isVal (v : CV) : R → Bool
  | .val x _ => cvEq x v
  | _ => false
theorem isVal_of {r : R} {v : CV} (h : r.isVal v = true) : ∃ h', r = .val v h' := by
  unfold R.isVal at h
  split at h
  · rw [cvEq_sound _ _ h]; exact ⟨_, rfl⟩
  · cases h

/-- A call that is known: by the plain machine. -/
theorem known_of {P : Program} {E : Env} {m : Nat} {e : KE} (W : EnvW P E) (hrun : (run E m (.call (.fn e.f [] []) e.args) .leaf (heapOf E.globs E.rows e.blks)).isVal e.res = true) (hv : e.res.plain = true) : KnownOk P E.globs E.rows e := by
  obtain ⟨h', hr⟩ := isVal_of hrun
  exact ⟨hv, call_fn W (id := e.f) (first := []) (caps := []) (args := e.args) (tmps := .leaf) (h := heapOf E.globs E.rows e.blks) (m := m) (by rw [hr]; simp), fun w ρ xs hH hg hx => run_closed W hr hv hH hg hx⟩

/-- What a closed call that the plain machine answers with true comes to. -/
theorem closed_call {P : Program} {E : Env} {m : Nat} {f : FuncId} (W : EnvW P E) (hrun : (run E m (.call (.fn f [] []) []) .leaf (memOf E.globs E.rows)).isTrue = true)
    {w : World} (hg : E.globs ≤ w.heap.size) (h : RowsAt w E.rows (rho0 E.globs)) : Calls P f #[] w fun e w' => e = .returned (.bool true) ∧ ∀ may, w.keptBut w' may := by
  obtain ⟨h', hr⟩ := isTrue_of hrun
  have hH : HR (rho0 E.globs) (heapOf E.globs E.rows []) w := hr0 hg (fun r hr => (W.rows r hr).1) h
  refine (run_closed (blks := []) W hr rfl hH (fun i hi => by show (if i < E.globs then some (i, 0) else none) = _; rw [if_pos hi]) (VRs.nil _)).mono fun e w' p => ?_
  obtain ⟨x, rfl, hv, k⟩ := p
  exact ⟨by rw [hv.inv_bool], fun may => kept_of_keep (fun _ h => h) k may⟩

/-- A table of small numbers that a variable holds. -/
theorem rowsAt_of_trod {P : Program} {w : World} {H : Type} {enc : TypeId × Value → H} {base fuel : Nat} {spare : Nat → Bool} {held : Bool} {name : String} {g : Nat} {t e : TypeId} {k : IntKind} {ns : List Int} {cs : Array Value} {ps : List MemPlace} {ρ : Rho}
    (hg : P.globalNamed name = some g) (hv : w.var? P name = some cs) (ht : P.underlying t = some (.array ns.length e)) (he : P.underlying e = some (.int k)) (h1 : P.cellsOf e = 1) (h2 : P.cellsOf t = ns.length)
    (hd : DataW.trod enc P w base spare held fuel t cs.toList = some (.agg (ns.map fun n => .lit (.int k n)), ps)) : RowsAt w [(g, ns.map (CV.int k))] ρ := by
  intro r hr
  rw [List.mem_singleton] at hr
  subst hr
  simp only [World.var?, hg, Option.bind_some] at hv
  have hcs : ∃ ty fz, w.heap[g]? = some (.cells cs ty fz) := by
    split at hv
    · rename_i cs' ty fz hw
      cases hv
      exact ⟨ty, fz, hw⟩
    · cases hv
  obtain ⟨ty, fz, hw⟩ := hcs
  obtain ⟨xs, m1, rfl, hx1, hlen, hn, hel⟩ := DataW.trod_array ht hd
  have hlen : cs.size = ns.length := by simpa [h2] using hlen
  simp only [Prod.mk.injEq, DataW.agg.injEq] at hx1
  refine ⟨cs, ty, fz, hw, by simp [hlen], ?_, by simp [CV.one]⟩
  refine ⟨by simp [hlen], fun i hi => ?_⟩
  have hi : i < ns.length := by simpa using hi
  have hi2 : i < xs.length := by omega
  have hcell := hel i hi
  rw [h1, List.getElem?_eq_getElem hi2] at hcell
  obtain ⟨n, e1, e2, _⟩ := DataW.trod_int he (show DataW.trod enc P w base spare held m1 e _ = some (xs[i].1, xs[i].2) from hcell)
  have hxi : (xs.map (·.1))[i]? = some (.lit (.int k ns[i])) := by rw [← hx1.1]; simp [hi]
  rw [List.getElem?_map, List.getElem?_eq_getElem hi2] at hxi
  simp only [Option.map_some, Option.some.injEq] at hxi
  rw [hxi] at e2
  simp only [Prod.mk.injEq, DataW.lit.injEq, Lit.int.injEq, true_and] at e2
  obtain ⟨e2, _⟩ := e2
  have hc : cs.toList[i]? = some (.int k n) := by
    have : ((cs.toList.drop (i * 1)).take 1)[0]? = some (.int k n) := by rw [e1]; rfl
    simpa using this
  have hL : (ns.map (CV.int k)).getD i .undef = .int k ns[i] := by simp [List.getD_eq_getElem?_getD, hi]
  have hR : ((cs.toList.take (ns.map (CV.int k)).length).getD i undef) = .int k n := by
    rw [List.getD_eq_getElem?_getD, List.getElem?_take, if_pos (by simpa using hi), hc]; rfl
  rw [hL, hR, e2]
  exact .int _ _

/-- A law without parameters: its row's condition on what is left behind. -/
theorem post_closed {H : Type} {enc : TypeId × Value → H} {P : Program} {f : Func} {s : ChangeSpec} {apart fresh handsOn : Bool} {w w' : World} {args : Array Value} {ds gs : List (DataW H)} {before : List MemPlace} {t : TypeId}
    (hW : DataW.Whole enc P f.params.toList s.vars apart w args.toList ds gs before) (hp : f.params.toList = []) (hvs : s.vars = []) (hrt : f.resultTypes.toList = [t]) (hrs : f.resultTypes.size = 1) (ht : P.underlying t = some .bool)
    (hs : s.fn H [] = { results := [.lit (.bool true)], args := [] }) (hk : ∀ may, w.keptBut w' may) : s.post enc P f apart fresh handsOn false w args (.bool true) w' := by
  have hW' := hW
  rw [hp, hvs] at hW
  obtain ⟨p, q, h1, h2, _, _, _⟩ := hW
  have hargs : args.toList = [] ∧ ds = [] ∧ p = [] := by
    generalize args.toList = l at h1
    cases l <;> cases ds <;> simp [DataW.TrodAll] at h1
    exact ⟨rfl, rfl, h1⟩
  obtain ⟨ha, rfl, rfl⟩ := hargs
  obtain ⟨rfl, rfl⟩ := ChangeShapes.trodVars_none h2
  refine ⟨[], [], before, [], [], [], hW', ?_, ?_, ?_, hk _, fun e => by cases e⟩
  · rw [hrt, hrs]
    show DataW.TrodAll enc P w' _ _ handsOn [t] [Value.bool true] (s.fn H []).results []
    rw [hs]
    exact ChangeShapes.trodAll_mk1 (RowKit.shut_bool ht true)
  · rw [hp, ha]
    show DataW.TrodAll enc P w' _ _ _ [] [] (s.fn H []).args []
    rw [hs]
    rfl
  · rw [hvs]
    show DataW.TrodVars enc P w' _ [] (s.fn H []).vars []
    rw [hs]
    rfl
end Go.CM
