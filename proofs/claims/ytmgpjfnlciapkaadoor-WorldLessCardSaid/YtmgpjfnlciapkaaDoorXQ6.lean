/- Parts of rows, in drawn regions. No condition, no program. -/
import Derived.Test.YtmgpjfnlciapkaaDoorZA
noncomputable section
namespace Go.CM
set_option linter.unusedVariables false
set_option linter.unusedSimpArgs false
section
variable {E : Env} {tm : Tm} {H h : Heap} {Q : R → Prop} {all rest : List Oper} {o : Oper} {bs : List Bits} {recs : List Rec} {i : Nat}
/-- A row up to an element. -/
theorem slice_upto {z : Nat} {v : CV} {l : List (List CV)} {k : Nat} {kk : IntKind} {s : TyS} {e : TypeId} (sl : SlG h z v l) (hk : k ≤ l.length) (hkd : s.kind = .slice e) (hz : sizeOf? E e = some z) :
    ∃ v', oSlice E (some s) v none (some (.int kk (k : Int))) none = some v' ∧ SlG h z v' (l.take k) := by
  rcases sl with ⟨rfl, rfl⟩ | ⟨rfl, rfl⟩ | ⟨i, o, c, x, cs, ro, rfl, h2, h3, h4, h5, h6⟩
  · have : k = 0 := by simpa using hk
    subst this
    exact ⟨.slice none 0 0 0, by simp only [oSlice, hkd, hz, hiOf, loOf]; rfl, .inl ⟨rfl, rfl⟩⟩
  · have : k = 0 := by simpa using hk
    subst this
    exact ⟨.empty, by simp only [oSlice, hkd, hz, hiOf, loOf]; rfl, .inr (.inl ⟨rfl, rfl⟩)⟩
  · have hu : upto (k : Int) c = some k := upto_nat (by omega)
    have hx : (Nat.beq x 0 || Nat.beq x z) = true := by
      rcases h6 with rfl | rfl
      · rfl
      · rw [Nat.beq_refl, Bool.or_true]
    have hlt : (l.take k).length = k := by rw [List.length_take]; omega
    have h4' : ∀ (j : Nat) (e : List CV), (l.take k)[j]? = some e → l[j]? = some e := fun j e he => by
      rw [List.getElem?_take] at he
      split at he
      · exact he
      · cases he
    cases c with
    | zero =>
      have k0 : k = 0 := by omega
      have l0 : l = [] := List.length_eq_zero_iff.1 (by omega)
      subst k0 l0
      cases x with
      | zero => exact ⟨.slice (some (i, o)) 0 0 0, by simp only [oSlice, hkd, hz, hiOf, loOf]; rfl, .inr (.inr ⟨i, o, 0, 0, cs, ro, rfl, h2, h3, fun j e he => by simp at he, Nat.zero_le _, .inl rfl⟩)⟩
      | succ y => exact ⟨.slice (some (i, o)) 0 0 (y + 1), by simp only [oSlice, hkd, hz, hiOf, loOf]; rfl, .inr (.inr ⟨i, o, 0, y + 1, cs, ro, rfl, h2, h3, fun j e he => by simp at he, Nat.zero_le _, h6⟩)⟩
    | succ c =>
      refine ⟨.slice (some (i, o)) k (c + 1) x, ?_, .inr (.inr ⟨i, o, c + 1, x, cs, ro, by rw [hlt], h2, h3, fun j e he => h4 j e (h4' j e he), by omega, h6⟩)⟩
      simp only [oSlice, hkd, hz, hiOf, loOf, hu, hx, sliceAtO]
      rw [Nat.zero_mul]; rfl
theorem W.dsl {t : TypeId} {x : Operand} {lo hi : Option Operand} {s : TyS} {v v' : CV} (hgd : guardOn all tm o = some true) (hop : o.op = .slice t x lo hi none) (hx : cvOf E.globs tm x = v) (hs : E.ty t = some s) (hv : oSlice E (some s) v (lo.map (cvOf E.globs tm)) (hi.map (cvOf E.globs tm)) none = some v') (hfp : fpAny E o tm = [])
    (w : W E (.draw bs all rest (i + 1) recs) (putTmp tm o.dst v') h Q) : W E (.draw bs all (o :: rest) i recs) tm h Q := by
  refine W.dop hgd hfp (v := v') ?_ w
  unfold opAny
  rw [hop]
  show withH _ (oSlice E (E.ty t) (cvOf E.globs tm x) _ _ none) = _
  rw [hs, hx]
  rw [hv]; rfl
theorem W.dslu {z : Nat} {h0 : Heap} {v : CV} {l : List (List CV)} {k : Nat} {kk : IntKind} {t e : TypeId} {x y : Operand} {s : TyS} (sl : SlG h0 z v l) (hk : k ≤ l.length) (hgd : guardOn all tm o = some true) (hop : o.op = .slice t x none (some y) none) (hx : cvOf E.globs tm x = v) (hy : cvOf E.globs tm y = .int kk (k : Int)) (hs : E.ty t = some s) (hkd : s.kind = .slice e) (hz : sizeOf? E e = some z)
    (w : ∀ v', SlG h0 z v' (l.take k) → W E (.draw bs all rest (i + 1) recs) (putTmp tm o.dst v') h Q) : W E (.draw bs all (o :: rest) i recs) tm h Q := by
  obtain ⟨v', h1, h2⟩ := slice_upto (E := E) (kk := kk) sl hk hkd hz
  exact W.dsl hgd hop hx hs (by show oSlice E (some s) v none (some (cvOf E.globs tm y)) none = _; rw [hy]; exact h1) (by unfold fpAny; rw [hop]; rfl) (w v' h2)
theorem W.dslf {z : Nat} {h0 : Heap} {v : CV} {l : List (List CV)} {k : Nat} {kk : IntKind} {t e : TypeId} {x y : Operand} {s : TyS} (sl : SlG h0 z v l) (hk : k ≤ l.length) (hgd : guardOn all tm o = some true) (hop : o.op = .slice t x (some y) none none) (hx : cvOf E.globs tm x = v) (hy : cvOf E.globs tm y = .int kk (k : Int)) (hs : E.ty t = some s) (hkd : s.kind = .slice e) (hz : sizeOf? E e = some z)
    (w : ∀ v', SlG h0 z v' (l.drop k) → W E (.draw bs all rest (i + 1) recs) (putTmp tm o.dst v') h Q) : W E (.draw bs all (o :: rest) i recs) tm h Q := by
  obtain ⟨v', h1, h2⟩ := slice_from (E := E) (kk := kk) sl hk hkd hz
  exact W.dsl hgd hop hx hs (by show oSlice E (some s) v (some (cvOf E.globs tm y)) none none = _; rw [hy]; exact h1) (by unfold fpAny; rw [hop]; rfl) (w v' h2)
/-- A cut behind a piece of code. -/
theorem W.cutB {t : Task} (P : Tm → Heap → Prop) (w : W E t tm h (CutQ P)) (k : ∀ tm' h', P tm' h' → Q (.code .normal tm' h')) : W E t tm h Q := by
  refine w.mono fun r q => ?_
  cases r with
  | code e tm' h' =>
    cases e with
    | normal => exact k tm' h' q
    | _ => exact q.elim
  | _ => exact q.elim
end
end Go.CM
