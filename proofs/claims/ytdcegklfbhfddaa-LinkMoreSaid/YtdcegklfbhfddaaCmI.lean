/- Places, parts, slices, maps, conversions. No condition. -/
import Derived.Test.YtdcegklfbhfddaaCmH
noncomputable section
namespace Go.CM
set_option linter.unusedVariables false
set_option linter.unusedSimpArgs false

section
variable {P : Program} {E : Env} {o : Oper} {a : Act} {ρ : Rho} {h h' : Heap} {w : World} {v : CV} {f : Operand → CV}

theorem op_fieldAddr (ok : EnvOk P E) {t : TypeId} {x : Operand} {fl : Nat} {vx : CV} (ho : o.op = .fieldAddr t x fl) (hr : HR ρ h w) (e : oFieldAddr E (fieldOf (E.ty t) fl) vx h = some (v, h')) (hx : VR ρ vx (a.eval x)) : OpOk P o a ρ h w v h' := by
  unfold oFieldAddr at e
  split at e
  · rename_i fo hfo
    split at e
    · rename_i n hn
      split at e
      · rename_i p
        cases e
        obtain ⟨i, off⟩ := p
        obtain ⟨k, d, hi, hxe⟩ := hx.inv_ptr
        unfold fieldOf at hfo
        split at hfo
        · rename_i s hs
          obtain ⟨ti, td, tz, tk⟩ := ok.row hs
          split at hfo
          · rename_i fs hk
            obtain ⟨l, rfl, rfl, _⟩ := kind_struct (tk.kind.symm.trans hk)
            rw [nth_eq, List.getElem?_map] at hfo
            simp only [Option.map_eq_some_iff] at hfo
            obtain ⟨fld, hfl, rfl⟩ := hfo
            have hfl : l[fl]? = some fld := by rw [← Array.getElem?_toList]; exact hfl
            have hsz := sizeOf_row ok hn w
            refine .val (x := .pointer (some (mk k (d + (off + fld.offset))))) hr ?_ (.ptr _ _ _ _ hi)
            unfold execOp
            simp [ho, hxe, Instr.fieldAt, Instr.sureAddr, run_underlying tk.und, hfl, fieldPlace, hsz, mk_add, Nat.add_assoc]
          · cases hfo
        · cases hfo
      · cases e
    · cases e
  · cases e

theorem op_field (ok : EnvOk P E) {t : TypeId} {x : Operand} {fl : Nat} {vx : CV} (ho : o.op = .field t x fl) (hr : HR ρ h w) (e : oField E (fieldOf (E.ty t) fl) vx h = some (v, h')) (hx : VR ρ vx (a.eval x)) : OpOk P o a ρ h w v h' := by
  unfold oField at e
  split at e
  · rename_i fo hfo
    split at e
    · rename_i s2 hs2
      split at e
      · obtain ⟨e1, e2⟩ := withH_some e
        simp only at e1 e2
        subst e2
        obtain ⟨i2, d2, z2, k2⟩ := ok.row hs2
        obtain ⟨arr, hxe, hv, h1⟩ := hx.inv_agg
        obtain ⟨X, g1, g2⟩ := part_sound k2 hv h1 e1 w
        unfold fieldOf at hfo
        split at hfo
        · rename_i s hs
          obtain ⟨ti, td, tz, tk⟩ := ok.row hs
          split at hfo
          · rename_i fs hk
            obtain ⟨l, rfl, rfl, _⟩ := kind_struct (tk.kind.symm.trans hk)
            rw [nth_eq, List.getElem?_map] at hfo
            simp only [Option.map_eq_some_iff] at hfo
            obtain ⟨fld, hfl, rfl⟩ := hfo
            have hfl : l[fl]? = some fld := by rw [← Array.getElem?_toList]; exact hfl
            refine .val hr ?_ g2
            unfold execOp
            simp [ho, hxe, Instr.field, run_underlying tk.und, hfl, asAgg, g1]
          · cases hfo
        · cases hfo
      · cases e
    · cases e
  · cases e

theorem op_indexAddr (ok : EnvOk P E) {t : TypeId} {x y : Operand} {vx vy : CV} (ho : o.op = .indexAddr t x y) (hr : HR ρ h w) (e : oIndexAddr E (E.ty t) vx vy h = some (v, h')) (hx : VR ρ vx (a.eval x)) (hy : VR ρ vy (a.eval y)) : OpOk P o a ρ h w v h' := by
  unfold oIndexAddr at e
  split at e
  · rename_i ik n
    have hye := hy.inv_int
    split at e
    · rename_i s hs
      obtain ⟨ti, td, tz, tk⟩ := ok.row hs
      split at e
      · rename_i len el hk
        have hd := kind_array (tk.kind.symm.trans hk)
        subst hd
        split at e
        · rename_i p
          obtain ⟨i, off⟩ := p
          unfold addrAt at e
          split at e
          · rename_i z hz
            split at e
            · rename_i j hj
              cases e
              obtain ⟨rfl, hlt⟩ := place_eq hj
              obtain ⟨k, d, hi, hxe⟩ := hx.inv_ptr
              have hsz := sizeOf_row ok hz w
              refine .val (x := .pointer (some (mk k (d + (off + j * z))))) hr ?_ (.ptr _ _ _ _ hi)
              unfold execOp
              simp [ho, hxe, hye, Instr.indexAt, Instr.sureAddr, asIntOf, run_underlying tk.und, hsz, hlt, mk_add, Nat.add_assoc]
            · cases e
          · cases e
        · cases e
      · rename_i el hk
        have hd := kind_slice (tk.kind.symm.trans hk)
        subst hd
        split at e
        · rename_i p n2 c2 x2
          obtain ⟨i, off⟩ := p
          unfold addrAt at e
          split at e
          · rename_i z hz
            split at e
            · rename_i j hj
              cases e
              obtain ⟨rfl, hlt⟩ := place_eq hj
              obtain ⟨k, d, c', hi, hxe, _⟩ := hx.inv_slice
              have hsz := sizeOf_row ok hz w
              refine .val (x := .pointer (some (mk k (d + (off + j * z))))) hr ?_ (.ptr _ _ _ _ hi)
              unfold execOp
              simp [ho, hxe, hye, Instr.indexAt, asIntOf, run_underlying tk.und, hsz, hlt, mk_add, Nat.add_assoc]
            · cases e
          · cases e
        · cases e
      · cases e
    · cases e
  · cases e

theorem op_index (ok : EnvOk P E) {t : TypeId} {x y : Operand} {vx vy : CV} (ho : o.op = .index t x y) (hr : HR ρ h w) (e : oIndex E (E.ty t) vx vy h = some (v, h')) (hx : VR ρ vx (a.eval x)) (hy : VR ρ vy (a.eval y)) : OpOk P o a ρ h w v h' := by
  unfold oIndex at e
  split at e
  · rename_i ik n
    have hye := hy.inv_int
    split at e
    · rename_i s hs
      obtain ⟨ti, td, tz, tk⟩ := ok.row hs
      split at e
      · rename_i len el hk
        have hd := kind_array (tk.kind.symm.trans hk)
        subst hd
        split at e
        · split at e
          · rename_i j hj
            split at e
            · rename_i s2 hs2
              obtain ⟨e1, e2⟩ := withH_some e
              simp only at e1 e2
              subst e2
              obtain ⟨i2, d2, z2, k2⟩ := ok.row hs2
              obtain ⟨rfl, hlt⟩ := place_eq hj
              obtain ⟨arr, hxe, hv, h1⟩ := hx.inv_agg
              obtain ⟨X, g1, g2⟩ := part_sound k2 hv h1 e1 w
              refine .val hr ?_ g2
              unfold execOp
              simp [ho, hxe, hye, Instr.index, asIntOf, run_underlying tk.und, run_sizeOf k2, hlt, g1]
            · cases e
          · cases e
        · cases e
      · rename_i hk
        have hd := kind_string (tk.kind.symm.trans hk)
        subst hd
        split at e
        · split at e
          · rename_i b _ j
            split at e
            · rename_i c hc
              cases e
              rw [nth_eq] at hc
              obtain ⟨B, hxe, rfl⟩ := hx.inv_str
              have hc2 : B[j]? = some c := by
                rw [Array.getElem?_toList] at hc
                obtain ⟨hlt, rfl⟩ := Array.getElem?_eq_some_iff.1 hc
                exact (getElem?_pos B j hlt)
              refine .val (x := .int .u8 c.toNat) hr ?_ (.int _ _)
              unfold execOp
              simp [ho, hxe, hye, Instr.index, asIntOf, run_underlying tk.und, hc2]
            · cases e
          · cases e
        · cases e
      · cases e
    · cases e
  · cases e

theorem op_makeIface (ok : EnvOk P E) {t : TypeId} {x : Operand} {vx : CV} (ho : o.op = .makeInterface t x) (hr : HR ρ h w) (e : oMakeIface (E.ty t) t vx h = some (v, h')) (hx : VR ρ vx (a.eval x)) : OpOk P o a ρ h w v h' := by
  unfold oMakeIface at e
  split at e
  · rename_i s hs
    obtain ⟨ti, td, tz, tk⟩ := ok.row hs
    split at e
    · cases e
    · rename_i hk
      cases e
      refine .val (x := .iface t (a.eval x)) hr ?_ (.iface _ _ _ hx)
      have hne : ∀ ms, td ≠ .interface ms := by
        intro ms e; subst e
        exact hk tk.kind
      unfold execOp
      simp only [ho, Instr.makeInterface, Sem.run_bind, run_underlying tk.und, Result.andThen_ok]
      cases td <;> first | rfl | exact absurd rfl (hne _)
  · cases e

theorem rel_list {l : List Operand} (hx : ∀ x ∈ l, VR ρ (f x) (a.eval x)) : VRs ρ (l.map f) (l.map a.eval) := by
  induction l with
  | nil => exact VRs.nil ρ
  | cons x l ih => exact VRs.cons (hx x (by simp)) (ih fun y hy => hx y (List.mem_cons_of_mem _ hy))

theorem op_makeFunc {fn : FuncId} {first caps : Array Operand} (ho : o.op = .makeFunc (.func fn) first caps) (hr : HR ρ h w) (h1 : ∀ x ∈ first.toList, VR ρ (f x) (a.eval x)) (h2 : ∀ x ∈ caps.toList, VR ρ (f x) (a.eval x)) :
    OpOk P o a ρ h w (.fn fn (first.toList.map f) (caps.toList.map f)) h := by
  refine .val (x := .func (.func fn) (first.map a.eval) (caps.map a.eval)) hr (by unfold execOp; simp [ho, Instr.makeFunc]) (VRs.fn ?_ ?_)
  · rw [Array.toList_map]; exact rel_list h1
  · rw [Array.toList_map]; exact rel_list h2

theorem op_extract {x : Operand} {i : Nat} {vx : CV} (ho : o.op = .extract x i) (hr : HR ρ h w) (e : oExtract vx i = some v) (hx : VR ρ vx (a.eval x)) : OpOk P o a ρ h w v h := by
  unfold oExtract at e
  split at e
  · rw [nth_eq] at e
    obtain ⟨arr, hxe, hv⟩ := hx.inv_tup
    obtain ⟨y, h1, h2⟩ := hv.get e
    have h1 : arr[i]? = some y := by rw [← Array.getElem?_toList]; exact h1
    exact .val hr (by unfold execOp; simp [ho, hxe, Instr.extract, h1]) h2
  · cases e

/-- A new row of cells, as a slice. -/
theorem newSl_some {n c : Nat} {cs : Option (List CV)} {p : CV × Heap} (e : newSl h n c cs = some p) : ∃ l, cs = some l ∧ p = (.slice (some (h.next, 0)) n c 0, h.new (.cells l false)) := by
  unfold newSl at e
  split at e
  · cases e; exact ⟨_, rfl, rfl⟩
  · cases e

def repV (zs : List Value) : Nat → List Value
  | 0 => []
  | n + 1 => zs ++ repV zs n
theorem rep_sound {zero : List CV} {zs : List Value} (hz : VRs ρ zero zs) : ∀ n, VRs ρ (rep zero n) (repV zs n)
  | 0 => VRs.nil ρ
  | n + 1 => hz.append (rep_sound hz n)
theorem rep_one {zero : List CV} (hz : ∀ c ∈ zero, c.one = true) : ∀ n, ∀ c ∈ rep zero n, c.one = true
  | 0, c, hc => by cases hc
  | n + 1, c, hc => by
    rcases List.mem_append.1 hc with hc | hc
    · exact hz c hc
    · exact rep_one hz n c hc
theorem rep_length (zero : List CV) : ∀ n, (rep zero n).length = n * zero.length
  | 0 => by simp [rep]
  | n + 1 => by simp [rep, rep_length zero n, Nat.add_mul]; omega

theorem range_rep (zs : Array Value) : ∀ n, ((List.range (n * zs.size)).map fun i => zs[i % zs.size]!) = repV zs.toList n
  | 0 => by simp [repV]
  | n + 1 => by
    have e : (n + 1) * zs.size = zs.size + n * zs.size := by rw [Nat.add_mul, Nat.one_mul, Nat.add_comm]
    rw [e, List.range_add, List.map_append, repV]
    congr 1
    · apply List.ext_getElem
      · simp
      · intro i h1 h2
        have hi : i < zs.size := by simpa using h1
        simp [Nat.mod_eq_of_lt hi, hi]
    · rw [List.map_map, ← range_rep zs n]
      apply List.map_congr_left
      intro i _
      simp

theorem range_arr (zs : Array Value) (n : Nat) (z0 : Array Value) (hz : n * zs.size ≠ 0 → z0 = zs) : ((Array.range (n * zs.size)).map (z0[· % z0.size]!)).toList = repV zs.toList n := by
  by_cases h0 : n * zs.size = 0
  · have : repV zs.toList n = [] := by
      rw [← range_rep, h0]; rfl
    rw [this, h0]; simp
  · rw [hz h0, ← range_rep]
    simp

theorem VR.newSlice (ρ : Rho) (i k n c : Nat) (hn : n ≤ c) (hc : c ≤ 9223372036854775807) : VR (upd ρ i (k, 0) 0) (.slice (some (i, 0)) n c 0) (.slice (some (mk k 0)) n c) := by
  have := VR.slice (ρ := upd ρ i (k, 0) 0) i 0 n c 0 k 0 c (upd_same _ _ _ _) (Nat.le_refl _) (fun _ => rfl) (fun e => absurd rfl e) hn hc
  simpa using this

theorem op_buildSlice (ok : EnvOk P E) {t : TypeId} {n : Nat} {ps : Array (Nat × Operand)} (ho : o.op = .buildSlice t n ps) (hr : HR ρ h w) (e : oBuildSlice E (E.ty t) n (parts f ps.toList) h = some (v, h'))
    (hx : ∀ x, x ∈ ps.toList.map (·.2) → VR ρ (f x) (a.eval x)) : OpOk P o a ρ h w v h' := by
  have hp := parts_sound hx
  unfold oBuildSlice at e
  split at e
  · rename_i s hs
    obtain ⟨i, d, z, k⟩ := ok.row hs
    split at e
    · rename_i el hk
      have hd := kind_slice (k.kind.symm.trans hk)
      subst hd
      split at e
      · rename_i es hes
        obtain ⟨ei, ed, ez, ek⟩ := ok.row hes
        obtain ⟨h1, h2⟩ := consts_sound (ρ := ρ) ek.cells
        split at e
        · rename_i hle
          have hle := Nat.le_of_ble_eq_true hle
          obtain ⟨l, hl, e⟩ := newSl_some e
          cases e
          have hzs : ez.cells.size = es.size := by
            have h3 := h1.1
            have h4 := ek.len
            have h5 := ek.size
            simp only [Array.length_toList] at h3
            omega
          let z0 : Array Value := if n * es.size = 0 then #[] else ez.cells
          have harr : ((Array.range (n * es.size)).map (z0[· % z0.size]!)).toList = repV ez.cells.toList n := by
            rw [← hzs]
            refine range_arr ez.cells n z0 (fun hne => ?_)
            simp only [z0]
            rw [if_neg (by rw [← hzs]; exact hne)]
          obtain ⟨arr', g1, g2, g3⟩ := fill_sound (fun i => some (i * es.size, es.size)) _ _ _ _ ((Array.range (n * es.size)).map (z0[· % z0.size]!)) hl (by rw [harr]; exact rep_sound h1 n) (rep_one h2 n) hp
          have hbig : n ≤ 9223372036854775807 := by omega
          · refine ⟨_, _, _, .inl ?_, J.alloc hr el g2 g3 w rfl rfl rfl, VR.newSlice ρ _ _ n n (Nat.le_refl _) hbig⟩
            have hb : ¬ n * es.size > 2 ^ 24 := by omega
            unfold execOp
            simp only [ho, Instr.buildSlice, Sem.run_bind, run_underlying k.und, Result.andThen_ok, run_sizeOf ek]
            rw [if_neg hb]
            by_cases hne : n * es.size = 0
            · simp only [z0, hne, if_true] at g1
              simp only [hne, if_true, Sem.run_bind, Sem.run_pure, Result.andThen_ok]
              rw [g1]
              simp [newRow, mk]
            · simp only [z0, hne, if_false] at g1
              simp only [hne, if_false, Sem.run_bind, zeroValue, typeInfo, ek.info, ek.zero, run_program, Sem.run_pure, Result.andThen_ok]
              rw [g1]
              simp [newRow, mk]
        · cases e
      · cases e
    · cases e
  · cases e

theorem op_makeSlice (ok : EnvOk P E) {t : TypeId} {x y : Operand} {vx vy : CV} (ho : o.op = .makeSlice t x y) (hr : HR ρ h w) (e : oMakeSlice E (E.ty t) vx vy h = some (v, h')) (hx : VR ρ vx (a.eval x)) (hy : VR ρ vy (a.eval y)) : OpOk P o a ρ h w v h' := by
  unfold oMakeSlice at e
  split at e
  · rename_i s hs
    obtain ⟨i, d, z, k⟩ := ok.row hs
    split at e
    · rename_i el hk
      have hd := kind_slice (k.kind.symm.trans hk)
      subst hd
      split at e
      · rename_i es hes
        obtain ⟨ei, ed, ez, ek⟩ := ok.row hes
        obtain ⟨h1, h2⟩ := consts_sound (ρ := ρ) ek.cells
        split at e
        · rename_i c0
          split at e
          · rename_i c hc
            obtain ⟨rfl, hcl⟩ := upto_eq hc
            split at e
            · rename_i l0
              split at e
              · rename_i l hl
                obtain ⟨rfl, hll⟩ := upto_eq hl
                split at e
                · rename_i hb
                  have hb := Nat.le_of_ble_eq_true hb
                  obtain ⟨cs, hcs, e⟩ := newSl_some e
                  cases e
                  cases hcs
                  have hzs : ez.cells.size = es.size := by
                    have h3 := h1.1
                    have h4 := ek.len
                    have h5 := ek.size
                    simp only [Array.length_toList] at h3
                    omega
                  let z0 : Array Value := if c * es.size = 0 then #[] else ez.cells
                  have harr : ((Array.range (c * es.size)).map (z0[· % z0.size]!)).toList = repV ez.cells.toList c := by
                    rw [← hzs]
                    refine range_arr ez.cells c z0 (fun hne => ?_)
                    simp only [z0]
                    rw [if_neg (by rw [← hzs]; exact hne)]
                  have hxe := hx.inv_int
                  have hye := hy.inv_int
                  refine ⟨_, _, _, .inl ?_, J.alloc hr el (arr := (Array.range (c * es.size)).map (z0[· % z0.size]!)) (by rw [harr]; exact rep_sound h1 c) (rep_one h2 c) w rfl rfl rfl, VR.newSlice ρ _ _ l c hll (by omega)⟩
                  have hbc : es.bytes * c ≤ 4294967296 := by
                    have := Nat.mul_le_mul hb hcl
                    omega
                  have hbytes : ei.bytes = es.bytes := ek.bytes.symm
                  have w1 : IntKind.i64.wrap (l : Int) = l := IntWalk.i64_in _ (by omega)
                  have w2 : IntKind.i64.wrap (c : Int) = c := IntWalk.i64_in _ (by omega)
                  have hbi : ((ei.bytes : Int) * (c : Int)) ≤ 4294967296 := by rw [hbytes, ← Int.natCast_mul]; omega
                  have hbl : ((ei.bytes : Int) * (l : Int)) ≤ 4294967296 := by
                    have : es.bytes * l ≤ 4294967296 := Nat.le_trans (Nat.mul_le_mul_left _ hll) hbc
                    rw [hbytes, ← Int.natCast_mul]; omega
                  have c1 : ¬ ((c : Int) < 0) := by omega
                  have c2 : ¬ (281474976710656 < (ei.bytes : Int) * (c : Int)) := by omega
                  have c3 : ¬ ((l : Int) < 0) := by omega
                  have c4 : ¬ ((c : Int) < (l : Int)) := by omega
                  unfold execOp
                  by_cases hne : c * es.size = 0
                  · simp only [z0, hne, if_true]
                    simp [ho, hxe, hye, Instr.makeSlice, run_underlying k.und, asInt, asIntOf, typeInfo, ek.info, w1, w2, c1, c2, c3, c4, run_sizeOf ek, hne, newRow, mk]
                  · simp only [z0, hne, if_false]
                    have hne' : ¬ (c = 0 ∨ es.size = 0) := by rw [← Nat.mul_eq_zero]; exact hne
                    simp [ho, hxe, hye, Instr.makeSlice, run_underlying k.und, asInt, asIntOf, typeInfo, ek.info, w1, w2, c1, c2, c3, c4, run_sizeOf ek, hne', zeroValue, ek.zero, newRow, mk]
                    exact fun h0 => absurd h0 hne
                · cases e
              · cases e
            · cases e
          · cases e
        · cases e
      · cases e
    · cases e
  · cases e

theorem op_makeMap {t : TypeId} (ho : o.op = .makeMap t none) (hr : HR ρ h w) : OpOk P o a ρ h w (.map (some h.next)) (h.new (.map [] 0)) := by
  refine ⟨.map (some w.heap.size), w.alloc (.map #[] 0), _, .inl ?_, J.new hr 0 rfl rfl (by rw [World.size_alloc]; omega) (fun x hx => heap_alloc_old w _ x hx) ?_, .map _ _ (upd_same _ _ _ _)⟩
  · unfold execOp
    simp [ho, Instr.makeMap]
  · exact ⟨rfl, #[], heap_alloc_new _ _, VRs.nil _, VRs.nil _, rfl⟩

end
end Go.CM
