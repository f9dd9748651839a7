/- The law's function, called with arguments as they are handed in: it says true, and turns nothing that was there. No condition. -/
import Derived.Test.YtklolghdoimgcaaGreatDoorXLh
import Derived.Test.YtklolghdoimgcaaGreatDoorXLi
import Derived.Test.YtklolghdoimgcaaGreatDoorKnX
namespace Go.Proofs.YtklolghdoimgcaaGreatDoor
set_option linter.unusedVariables false
set_option linter.unusedSimpArgs false
open Go Go.CM
noncomputable section
set_option maxRecDepth 100000

theorem law_runs {W : World} (t n f a b : Int) {x2 x3 : Value} {b2 b3 : ArgB} {A D : List Int} {mA mD : Nat → CV} (IA : IntsArg W x2 b2 A mA) (ID : IntsArg W x3 b3 D mD) (h1 : 0 + 1 ≤ W.heap.size) (h2 : RowsAt W rows (rho0 (0 + 1))) :
    Calls Tryz.prog 3 #[.agg #[.int .i64 t, .int .i64 n, x2, x3], .int .i64 f, .int .i64 a, .int .i64 b] W fun e w' => ∃ x, e = .returned x ∧ VR (rho0 (0 + 1)) (.bool true) x ∧ Keep (fun _ => False) W w' := by
  have hH : HR (rhoA (0 + 1) [b2, b3]) (heapOf (0 + 1) rows ([b2, b3].map (·.cs))) W := by
    refine hr_args h1 (fun r hr => envW1.rows r hr) h2 (fun c hc => ?_)
    simp only [List.mem_cons, List.not_mem_nil, or_false] at hc
    rcases hc with rfl | rfl
    · obtain ⟨arr, ty, fz, k1, k2, k3, k4⟩ := IA.blk
      exact ⟨arr, ty, fz, k1, k2, k3 _, k4⟩
    · obtain ⟨arr, ty, fz, k1, k2, k3, k4⟩ := ID.blk
      exact ⟨arr, ty, fz, k1, k2, k3 _, k4⟩
  have hn : (heapOf (0 + 1) rows ([b2, b3].map (·.cs))).next = 0 + 1 + 2 := heapOf_next
  have hg1 : (heapOf (0 + 1) rows ([b2, b3].map (·.cs))).get (0 + 1 + 0) = some (.cells b2.cs true) := heapOf_at rfl
  have hg2 : (heapOf (0 + 1) rows ([b2, b3].map (·.cs))).get (0 + 1 + 1) = some (.cells b3.cs true) := heapOf_at rfl
  have hrow : rowsHold (heapOf (0 + 1) rows ([b2, b3].map (·.cs))) rows = true := rows_at (by decide) (by kernel_rfl)
  have hlow : ∀ r ∈ rows, r.1 < (heapOf (0 + 1) rows ([b2, b3].map (·.cs))).next := fun r hr => by
    rw [hn]
    have := (envW1.rows r hr).1
    have e : E1.globs = 0 + 1 := rfl
    omega
  have rA := IA.row _ (0 + 1 + 0) (by rw [hn]; omega) hg1
  have rD := ID.row _ (0 + 1 + 1) (by rw [hn]; omega) hg2
  have hrun : CM.W E1 (.call (.fn 3 [] []) [.agg [.int .i64 t, .int .i64 n, mA (0 + 1 + 0), mD (0 + 1 + 1)], .int .i64 f, .int .i64 a, .int .i64 b]) .leaf (heapOf (0 + 1) rows ([b2, b3].map (·.cs))) (fun r => ∃ h', r = .val (.bool true) h') := by
    rcases rA with sA | ⟨eA, _⟩
    · rcases rD with sD | ⟨eD, _⟩
      · exact law_w t n f a b sA sD hrow hlow
      · obtain ⟨p, c, x, e⟩ := sA.len
        exact law_e t n f a b (.inr ⟨p, c, x, e⟩) (.inl ⟨eD, rfl⟩) (.inr ⟨⟨p, _, c, x, e⟩, eD⟩) hrow hlow
    · rcases rD with sD | ⟨eD, _⟩
      · exact law_e t n f a b (.inl ⟨eA, rfl⟩) (.inr sD.len) (.inl eA) hrow hlow
      · exact law_e t n f a b (.inl ⟨eA, rfl⟩) (.inl ⟨eD, rfl⟩) (.inl eA) hrow hlow
  refine run_args (E := E1) (l := [b2, b3]) envW1 hrun rfl hH (xs := [.agg #[.int .i64 t, .int .i64 n, x2, x3], .int .i64 f, .int .i64 a, .int .i64 b]) ?_
  refine VRs.cons (VRs.agg (VRs.cons (.int _ _) (VRs.cons (.int _ _) (VRs.cons (IA.vr _ _ rfl) (VRs.cons (ID.vr _ _ rfl) (VRs.nil _))))) ?_) (VRs.cons (.int _ _) (VRs.cons (.int _ _) (VRs.cons (.int _ _) (VRs.nil _))))
  intro c hc
  simp only [List.mem_cons, List.not_mem_nil, or_false] at hc
  rcases hc with rfl | rfl | rfl | rfl
  · rfl
  · rfl
  · exact IA.one _
  · exact ID.one _

theorem open_run {H : Type} {enc : TypeId × Value → H} {W : World} {v : Value} {d : DataW H} {ps : List MemPlace} (hb : ∃ (b0 : Nat) (arr : Array Value) (ty : TypeId) (fz : Nat × Nat), W.heap[b0]? = some (Obj.cells arr ty fz)) (h : DataW.Trod enc Tryz.prog W 0 (fun _ => true) true 24 v d ps) :
    ∃ t n x2 x3 b2 A mA b3 D mD, v = .agg #[.int .i64 t, .int .i64 n, x2, x3] ∧ IntsArg W x2 b2 A mA ∧ IntsArg W x3 b3 D mD := by
  obtain ⟨fuel, h⟩ := h
  have z1 : Tryz.prog.cellsOf 3 = 1 := by kernel_rfl
  have z2 : Tryz.prog.cellsOf 22 = 1 := by kernel_rfl
  have z3 : Tryz.prog.cellsOf 2 = 1 := by kernel_rfl
  have z4 : Tryz.prog.cellsOf 24 = 4 := by kernel_rfl
  obtain ⟨y0, y1, y2, y3, m, _, hl, e0, e1, e2, e3⟩ := Joins.trod_struct4 Tryz.underlying24 h
  rw [z4] at hl
  obtain ⟨c0, c1, c2, c3, hv⟩ : ∃ c0 c1 c2 c3, v.cells.toList = [c0, c1, c2, c3] := by
    generalize v.cells.toList = l at hl
    match l, hl with
    | [c0, c1, c2, c3], _ => exact ⟨c0, c1, c2, c3, rfl⟩
  have hva : v = .agg #[c0, c1, c2, c3] := by
    cases v with
    | agg cs =>
      obtain ⟨l⟩ := cs
      simp only [Value.cells] at hv
      subst hv
      rfl
    | _ => simp [Value.cells] at hv
  rw [hv] at e0 e1 e2 e3
  obtain ⟨t, f0, _, _⟩ := DataW.trod_int Tryz.underlying3 e0
  obtain ⟨n, f1, _, _⟩ := DataW.trod_int Tryz.underlying3 e1
  obtain ⟨x2, b2, A, mA, f2, IA⟩ := open_ints Tryz.underlying22 Tryz.underlying2 z3 hb e2
  obtain ⟨x3, b3, D, mD, f3, ID⟩ := open_ints Tryz.underlying22 Tryz.underlying2 z3 hb e3
  simp [z1, z2] at f0 f1 f2 f3
  subst hva f0 f1 f2 f3
  exact ⟨t, n, _, _, b2, A, mA, b3, D, mD, rfl, IA, ID⟩
end
end Go.Proofs.YtklolghdoimgcaaGreatDoor
