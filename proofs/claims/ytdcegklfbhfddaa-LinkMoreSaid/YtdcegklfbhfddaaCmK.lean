/- Slicing, conversions, maps. No condition. -/
import Derived.Test.YtdcegklfbhfddaaCmI
noncomputable section
namespace Go.CM
set_option linter.unusedVariables false
set_option linter.unusedSimpArgs false

def OptR (ρ : Rho) : Option CV → Option Value → Prop
  | none, none => True
  | some v, some x => VR ρ v x
  | _, _ => False

section
variable {P : Program} {E : Env} {o : Oper} {a : Act} {ρ : Rho} {h h' : Heap} {w : World} {v : CV} {f : Operand → CV}

theorem optR_map {x : Option Operand} (hx : ∀ y, x = some y → VR ρ (f y) (a.eval y)) : OptR ρ (x.map f) (x.map a.eval) := by
  cases x with
  | none => trivial
  | some y => exact hx y rfl

theorem run_bound {n : Int} {m i : Nat} (hn : upto n m = some i) (k : IntKind) (code : BoundsCode) (w : World) : (Instr.sliceBound (.int k n) m code).run P w = .ok i w := by
  obtain ⟨rfl, hi⟩ := upto_eq hn
  simp [Instr.sliceBound, asIntOf, hi]

def optBound (v : Option Value) (m : Nat) (code : BoundsCode) (d : Nat) : Sem Nat :=
  match v with
  | some v => Instr.sliceBound v m code
  | none => pure d

theorem lo_run {lo : Option CV} {LO : Option Value} {hh l : Nat} (h2 : loOf lo hh = some l) (hl : OptR ρ lo LO) (code : BoundsCode) (w : World) : (optBound LO hh code 0).run P w = .ok l w := by
  unfold loOf at h2
  split at h2
  · cases LO with
    | none => cases h2; rfl
    | some _ => exact hl.elim
  · cases LO with
    | none => exact hl.elim
    | some X =>
      have hX : X = _ := VR.inv_int hl
      subst hX
      exact run_bound h2 _ _ w
  · cases h2
theorem hi_run {hi : Option CV} {HI : Option Value} {n c c' hh : Nat} (h1 : hiOf hi n c = some hh) (hh' : OptR ρ hi HI) (hc : c ≤ c') (code : BoundsCode) (w : World) : (optBound HI c' code n).run P w = .ok hh w := by
  unfold hiOf at h1
  split at h1
  · cases HI with
    | none => cases h1; rfl
    | some _ => exact hh'.elim
  · cases HI with
    | none => exact hh'.elim
    | some X =>
      have hX : X = _ := VR.inv_int hh'
      subst hX
      obtain ⟨rfl, hle⟩ := upto_eq h1
      refine run_bound ?_ _ _ w
      show (match Nat.ble hh c' with | true => some hh | false => none) = some hh
      rw [Nat.ble_eq_true_of_le (Nat.le_trans hle hc)]
  · cases h1

/-- The model's bounds, without a third one. -/
theorem bounds_sound {lo hi : Option CV} {LO HI : Option Value} {n c c' hh l : Nat} (h1 : hiOf hi n c = some hh) (h2 : loOf lo hh = some l) (hl : OptR ρ lo LO) (hh' : OptR ρ hi HI) (hc : c ≤ c') (b : Bool) (w : World) :
    (Instr.sliceBounds b n c' LO HI none).run P w = .ok (l, hh, c') w := by
  have lo_ok := lo_run (P := P) h2 hl .sliceB w
  have hi_ok := fun code => hi_run (P := P) h1 hh' hc code w
  unfold optBound at lo_ok hi_ok
  unfold Instr.sliceBounds
  cases LO <;> cases HI <;> simp_all

theorem hi_le {hi : Option CV} {n c hh : Nat} (h1 : hiOf hi n c = some hh) (hn : n ≤ c) : hh ≤ c := by
  unfold hiOf at h1
  split at h1
  · cases h1; exact hn
  · exact (upto_eq h1).2
  · cases h1
theorem lo_le {lo : Option CV} {hh l : Nat} (h1 : loOf lo hh = some l) : l ≤ hh := by
  unfold loOf at h1
  split at h1
  · cases h1; exact Nat.zero_le _
  · exact (upto_eq h1).2
  · cases h1

theorem VR.slicePart {p : Option (Nat × Nat)} {n c ex : Nat} {x : Value} (hx : VR ρ (.slice p n c ex) x) : ∃ base c', x = .slice base n c' ∧ c ≤ c' ∧ (ex = 0 → c' = c) ∧ n ≤ c ∧ c' ≤ 9223372036854775807 ∧
    (∀ n2 c2 c2' ex2, c2 ≤ c2' → (ex2 = 0 → c2' = c2) → (ex2 ≠ 0 → ex2 = ex ∧ c2' = c') → n2 ≤ c2 → c2' ≤ 9223372036854775807 → VR ρ (.slice p n2 c2 ex2) (.slice base n2 c2')) ∧
    (∀ q l n2 c2 c2' ex2, c2 ≤ c2' → (ex2 = 0 → c2' = c2) → (ex2 ≠ 0 → ex2 = ex ∧ c2' = c' - l ∧ l ≤ c' ∧ q = l * ex) → n2 ≤ c2 → c2' ≤ 9223372036854775807 → VR ρ (.slice (sliceAtO p 1 q) n2 c2 ex2) (.slice (base.map (·.add q)) n2 c2')) := by
  cases hx with
  | nilslice _ _ _ c' h1 h2 h3 h4 =>
    exact ⟨none, c', rfl, h1, h2, h3, h4, fun _ _ _ _ a b _ c d => .nilslice _ _ _ _ a b c d, fun _ _ _ _ _ _ a b _ c d => .nilslice _ _ _ _ a b c d⟩
  | slice i off _ _ _ k d c' hi h1 h2 h6 h3 h4 =>
    refine ⟨_, c', rfl, h1, h2, h3, h4, fun _ _ _ _ a b r c d => .slice _ _ _ _ _ _ _ _ hi a b (fun e => by obtain ⟨rfl, rfl⟩ := r e; exact h6 e) c d, fun q l _ _ _ _ a b r c e => ?_⟩
    have := VR.slice (ρ := ρ) i (off + 1 * q) _ _ _ k d _ hi a b (fun e2 => by
      obtain ⟨q1, q2, hl, q3⟩ := r e2
      rw [q1] at e2 ⊢
      have := h6 e2
      have h7 := Nat.sub_mul c' l ex
      have h8 := Nat.mul_le_mul_right ex hl
      rw [q2, q3]
      omega) c e
    simpa [sliceAtO, mk_add, Nat.add_assoc] using this

theorem sliceAtO_eq (p : Option (Nat × Nat)) (l z : Nat) : sliceAtO p l z = sliceAtO p 1 (l * z) := by
  unfold sliceAtO; cases p <;> simp

theorem op_slice (ok : EnvOk P E) {t : TypeId} {x : Operand} {lo hi mx : Option Operand} {vx : CV} {vl vh vm : Option CV} (ho : o.op = .slice t x lo hi mx) (hr : HR ρ h w) (e : oSlice E (E.ty t) vx vl vh vm = some v) (hx : VR ρ vx (a.eval x))
    (hl : OptR ρ vl (lo.map a.eval)) (hh : OptR ρ vh (hi.map a.eval)) (hm : OptR ρ vm (mx.map a.eval)) : OpOk P o a ρ h w v h := by
  have fin : ∀ {X : Value}, (Instr.sliceAt t (a.eval x) (lo.map a.eval) (hi.map a.eval) (mx.map a.eval)).run P w = .ok X w → VR ρ v X → OpOk P o a ρ h w v h :=
    fun h1 h2 => .val hr (by unfold execOp; simp [ho, h1]) h2
  unfold oSlice at e
  split at e
  · cases e
  · rename_i s hs
    obtain ⟨ti, td, tz, tk⟩ := ok.row hs
    split at e
    · -- a string
      rename_i hk
      have hd := kind_string (tk.kind.symm.trans hk)
      subst hd
      split at e
      · rename_i b
        split at e
        · have hmn : mx.map a.eval = none := by cases hmm : mx.map a.eval with | none => rfl | some _ => rw [hmm] at hm; exact hm.elim
          split at e
          · rename_i hh0 hhi
            split at e
            · rename_i l hlo
              rw [len_eq] at hhi
              obtain ⟨B, hxe, rfl⟩ := hx.inv_str
              have hsz : B.data.toList.length = B.size := by simp
              rw [hsz] at hhi
              have hb := bounds_sound (P := P) hhi hlo hl hh (Nat.le_refl _) false w
              have hle1 := hi_le hhi (Nat.le_refl _)
              have hle2 := lo_le hlo
              rw [cut_eq] at e
              have hcond : l + (hh0 - l) ≤ B.data.toList.length := by omega
              rw [if_pos hcond] at e
              simp only [Option.map_some, Option.some.injEq] at e
              subst e
              refine fin (X := .string (B.extract l hh0)) ?_ ?_
              · simp [Instr.sliceAt, Instr.slice, run_underlying tk.und, hxe, hmn, hb]
              · have he : (B.extract l hh0).data.toList = (B.data.toList.drop l).take (hh0 - l) := by
                  simp [ByteArray.data_extract]
                rw [← he]; exact .str _
            · cases e
          · cases e
        · cases e
      · cases e
    · -- a slice
      rename_i el hk
      have hd := kind_slice (tk.kind.symm.trans hk)
      subst hd
      split at e
      · rename_i p n cap ex
        obtain ⟨base, c', hxe, g1, g2, g3, g4, g5, g6⟩ := hx.slicePart
        split at e
        · rename_i z hz
          have hzr := sizeOf_row ok hz w
          split at e
          · have hmn : mx.map a.eval = none := by cases hmm : mx.map a.eval with | none => rfl | some _ => rw [hmm] at hm; exact hm.elim
            split at e
            · rename_i hh0 hhi
              split at e
              · rename_i l hlo
                have hb := bounds_sound (P := P) hhi hlo hl hh g1 true w
                have hle1 := hi_le hhi g3
                have hle2 := lo_le hlo
                have hrun : (Instr.sliceAt t (a.eval x) (lo.map a.eval) (hi.map a.eval) (mx.map a.eval)).run P w = .ok (.slice (if c' = l then base else base.map (·.add (l * z))) (hh0 - l) (c' - l)) w := by
                  simp [Instr.sliceAt, Instr.slice, run_underlying tk.und, hxe, hmn, hb, hzr]
                split at e
                · rename_i hcl
                  have hcl := Nat.eq_of_beq_eq_true hcl
                  split at e
                  · cases e
                    have hc' := g2 rfl
                    rw [if_pos (by omega)] at hrun
                    exact fin hrun (g5 _ _ _ _ (by omega) (fun _ => by omega) (fun e => absurd rfl e) (by omega) (by omega))
                  · split at e
                    · cases e
                      have hcz : cap = 0 := hcl
                      refine fin hrun ?_
                      have e2 : (if c' = 0 then base else base.map (·.add (0 * z))) = base := by
                        split
                        · rfl
                        · cases base with
                          | none => rfl
                          | some b => simp [Addr.add]
                      rw [e2]
                      exact g5 _ _ _ _ (by omega) (fun hf => by cases hf) (fun _ => ⟨rfl, by omega⟩) (by omega) (by omega)
                    · rename_i l0 _hc0
                      split at e
                      · rename_i q
                        cases e
                        obtain ⟨qi, qo⟩ := q
                        obtain ⟨qk, qd, qc, _, hxq, _⟩ := hx.inv_slice
                        have hbase : base = some (mk qk (qd + qo)) := by rw [hxe] at hxq; injection hxq
                        have hh : hh0 - (l0 + 1) = 0 := by omega
                        rw [hbase, hh] at hrun
                        have e3 : (if c' = l0 + 1 then some (mk qk (qd + qo)) else Option.map (fun x => x.add ((l0 + 1) * z)) (some (mk qk (qd + qo)))) = some (if c' = l0 + 1 then mk qk (qd + qo) else (mk qk (qd + qo)).add ((l0 + 1) * z)) := by
                          split <;> rfl
                        rw [e3] at hrun
                        exact fin hrun (.empty _ _ (by omega))
                      · cases e
                · rename_i hcl
                  have hcl : cap ≠ l := by intro e; subst e; rw [Nat.beq_refl] at hcl; cases hcl
                  split at e
                  · rename_i hexz
                    cases e
                    rw [if_neg (by omega)] at hrun
                    refine fin hrun ?_
                    rw [sliceAtO_eq]
                    refine g6 _ l _ _ _ _ (by omega) (fun hex => by have := g2 hex; omega) (fun hne => ⟨rfl, rfl, by omega, ?_⟩) (by omega) (by omega)
                    simp only [Bool.or_eq_true] at hexz
                    rcases hexz with hexz | hexz
                    · exact absurd (Nat.eq_of_beq_eq_true hexz) hne
                    · rw [Nat.eq_of_beq_eq_true hexz]
                  · cases e
              · cases e
            · cases e
          · rename_i mk0 m0
            split at e
            · rename_i m hmm
              split at e
              · rename_i hk0 h0
                split at e
                · rename_i hh0 hhi
                  split at e
                  · rename_i l hlo
                    obtain ⟨rfl, hmc⟩ := upto_eq hmm
                    obtain ⟨hEQ, hhm⟩ := upto_eq hhi
                    have hle2 := lo_le hlo
                    cases hmx : mx.map a.eval with
                    | none => rw [hmx] at hm; exact hm.elim
                    | some M =>
                      rw [hmx] at hm
                      have hM := VR.inv_int hm
                      cases hhx : hi.map a.eval with
                      | none => rw [hhx] at hh; exact hh.elim
                      | some H =>
                        rw [hhx] at hh
                        have hH := VR.inv_int hh
                        have lo_ok := lo_run (P := P) hlo hl .slice3C w
                        unfold optBound at lo_ok
                        have b1 : (Instr.sliceBound M c' .slice3Acap).run P w = .ok m w := by
                          rw [hM]
                          refine run_bound ?_ _ _ w
                          show (match Nat.ble m c' with | true => some m | false => none) = some m
                          rw [Nat.ble_eq_true_of_le (Nat.le_trans hmc g1)]
                        have b2 : (Instr.sliceBound H m .slice3B).run P w = .ok hh0 w := by
                          rw [hH]; exact run_bound hhi _ _ w
                        have hrun : (Instr.sliceAt t (a.eval x) (lo.map a.eval) (some H) (some M)).run P w = .ok (.slice (if m = l then base else base.map (·.add (l * z))) (hh0 - l) (m - l)) w := by
                          cases hlx : lo.map a.eval with
                          | none =>
                            rw [hlx] at lo_ok
                            have : l = 0 := by simpa using lo_ok.symm
                            subst this
                            simp [Instr.sliceAt, Instr.slice, Instr.sliceBounds, run_underlying tk.und, hxe, b1, b2, hzr]
                          | some L =>
                            rw [hlx] at lo_ok
                            simp only at lo_ok
                            simp [Instr.sliceAt, Instr.slice, Instr.sliceBounds, run_underlying tk.und, hxe, b1, b2, lo_ok, hzr]
                        rw [← hhx, ← hmx] at hrun
                        split at e
                        · rename_i hcl
                          have hcl := Nat.eq_of_beq_eq_true hcl
                          cases e
                          rw [if_pos hcl] at hrun
                          exact fin hrun (g5 _ _ _ _ (by omega) (fun _ => by omega) (fun e => absurd rfl e) (by omega) (by omega))
                        · rename_i hcl
                          cases e
                          have hcl : m ≠ l := by intro e; subst e; rw [Nat.beq_refl] at hcl; cases hcl
                          rw [if_neg hcl] at hrun
                          refine fin hrun ?_
                          rw [sliceAtO_eq]
                          exact g6 _ l _ _ _ _ (by omega) (fun _ => by omega) (fun e => absurd rfl e) (by omega) (by omega)
                  · cases e
                · cases e
              · cases e
            · cases e
          · cases e
        · cases e
      · obtain ⟨p, c', hxe, hcm⟩ := hx.inv_empty
        split at e
        · have hmn : mx.map a.eval = none := by cases hmm : mx.map a.eval with | none => rfl | some _ => rw [hmm] at hm; exact hm.elim
          split at e
          · rename_i hh0 hhi
            split at e
            · rename_i l hlo
              split at e
              · rename_i z hz
                cases e
                have hzr := sizeOf_row ok hz w
                have hb := bounds_sound (P := P) hhi hlo hl hh (Nat.zero_le c') true w
                have hle1 := hi_le hhi (Nat.le_refl _)
                have hle2 := lo_le hlo
                have h0 : hh0 = 0 := by omega
                have l0 : l = 0 := by omega
                subst h0 l0
                have hrun : (Instr.sliceAt t (a.eval x) (lo.map a.eval) (hi.map a.eval) (mx.map a.eval)).run P w = .ok (.slice (if c' = 0 then some p else (some p).map (·.add (0 * z))) 0 (c' - 0)) w := by
                  simp [Instr.sliceAt, Instr.slice, run_underlying tk.und, hxe, hmn, hb, hzr]
                have e3 : (if c' = 0 then some p else (some p).map (·.add (0 * z))) = some (if c' = 0 then p else p.add (0 * z)) := by split <;> rfl
                rw [e3] at hrun
                exact fin hrun (.empty _ _ (by omega))
              · cases e
            · cases e
          · cases e
        · cases e
      · cases e
    · -- an array's address
      rename_i n el hk
      have hd := kind_array (tk.kind.symm.trans hk)
      subst hd
      split at e
      · rename_i p
        obtain ⟨i, off⟩ := p
        obtain ⟨k, d, hi2, hxe⟩ := hx.inv_ptr
        split at e
        · have hmn : mx.map a.eval = none := by cases hmm : mx.map a.eval with | none => rfl | some _ => rw [hmm] at hm; exact hm.elim
          split at e
          · rename_i z hz
            have hzr := sizeOf_row ok hz w
            split at e
            · rename_i hh0 hhi
              split at e
              · rename_i l hlo
                have hb := bounds_sound (P := P) hhi hlo hl hh (Nat.le_refl _) false w
                have hle1 := hi_le hhi (Nat.le_refl _)
                have hle2 := lo_le hlo
                have hrun : (Instr.sliceAt t (a.eval x) (lo.map a.eval) (hi.map a.eval) (mx.map a.eval)).run P w = .ok (.slice (some (if n = l then mk k (d + off) else (mk k (d + off)).add (l * z))) (hh0 - l) (n - l)) w := by
                  simp [Instr.sliceAt, Instr.sureAddr, run_underlying tk.und, hxe, hmn, hb, hzr]
                split at e
                · rename_i hcl
                  have hcl := Nat.eq_of_beq_eq_true hcl
                  split at e
                  · rename_i hn
                    have hn := Nat.le_of_ble_eq_true hn
                    cases e
                    rw [if_pos hcl] at hrun
                    exact fin hrun (.slice _ _ _ _ _ _ _ _ hi2 (Nat.le_refl _) (fun _ => rfl) (fun e => absurd rfl e) (by omega) (by omega))
                  · cases e
                · rename_i hcl
                  have hcl : n ≠ l := by intro e; subst e; rw [Nat.beq_refl] at hcl; cases hcl
                  split at e
                  · rename_i hn
                    have hn := Nat.le_of_ble_eq_true hn
                    cases e
                    rw [if_neg hcl, mk_add, Nat.add_assoc] at hrun
                    exact fin hrun (.slice _ _ _ _ _ _ _ _ hi2 (Nat.le_refl _) (fun _ => rfl) (fun e => absurd rfl e) (by omega) (by omega))
                  · cases e
              · cases e
            · cases e
          · cases e
        · cases e
      · cases e
    · cases e
end
end Go.CM
