/- strings.Join, as a known call: by the library's own contract. No condition. -/
import Derived.Test.YtlapjpgfpdeknaeGreatDoorCmX
import Derived.Room.Shelf.Join48
noncomputable section
namespace Go.CM
set_option linter.unusedVariables false
set_option linter.unusedSimpArgs false
open Go.Shelf Go.Proofs

theorem strs_get {ρ : Rho} {ss : List (List UInt8)} {xs : List Value} (h : VRs ρ (ss.map CV.str) xs) {j : Nat} {x : ByteArray} (hx : (ss.map fun s => (⟨s.toArray⟩ : ByteArray))[j]? = some x) : xs[j]? = some (.string x) := by
  rw [List.getElem?_map, Option.map_eq_some_iff] at hx
  obtain ⟨s, hs, rfl⟩ := hx
  have h1 : (ss.map CV.str)[j]? = some (.str s) := by rw [List.getElem?_map, hs]; rfl
  obtain ⟨y, hy, hv⟩ := h.get h1
  obtain ⟨B, rfl, hB⟩ := hv.inv_str
  have : B = ⟨s.toArray⟩ := by
    obtain ⟨⟨b⟩⟩ := B
    have e : b = s := hB
    rw [e]
  rw [hy, this]

theorem join_known {P : Program} {ren : Ren} (L : Lays.n156 P ren) (X : Builder.Extra P ren) {g : Nat} {rows : List (Nat × List CV)} {f : Nat} (hf : ren.f 156 = f) (hfn : ∃ fn, P.funcs[f]? = some fn ∧ ¬ fn.name = "runtime.NumGoroutine" ∧ ∃ c, fn.body = some c)
    (ss : List (List UInt8)) (sep res : List UInt8) (ex : Nat) (hn : ss.length ≤ 1000000) (hlen : res.length ≤ 1000000) (hres : sep.intercalate ss = res) :
    KnownOk P g rows ⟨f, [.slice (some (g, 0)) ss.length ss.length ex, .str sep], [ss.map CV.str], .str res⟩ := by
  refine ⟨rfl, hfn, fun w ρ xs hH hg hx => ?_⟩
  obtain ⟨X1, r, rfl, h1, h2⟩ := hx.head
  obtain ⟨X2, r2, rfl, h3, h4⟩ := h2.head
  have := h4.of_nil
  subst this
  obtain ⟨k, d, c', hi, rfl, g1, _, _, _, _⟩ := h1.inv_slice
  obtain ⟨S, rfl, hS⟩ := h3.inv_str
  have hget : (heapOf g rows [ss.map CV.str]).get g = some (.cells (ss.map CV.str) true) := by
    show ((memOf g rows).t.set g (some (.cells (ss.map CV.str) true))).get g = _
    rw [Tree.get_set]; simp
  obtain ⟨k', d', hi', arr, ty, fz, q1, q2, q3, _, _⟩ := hH.blk g _ hget
  rw [hi] at hi'
  cases hi'
  have hxl : (ss.map fun s => (⟨s.toArray⟩ : ByteArray)).length = ss.length := by simp
  have hmap : ((ss.map fun s => (⟨s.toArray⟩ : ByteArray)).map (·.data.toList)) = ss := by
    rw [List.map_map]
    exact (List.map_congr_left fun a _ => rfl).trans (List.map_id ss)
  have hj : Lib.join ((ss.map fun s => (⟨s.toArray⟩ : ByteArray)).map (·.data.toList)) S.data.toList = res := by
    rw [hmap, ← hres, hS]; rfl
  have hcells : ∀ (j : Nat) x, (ss.map fun s => (⟨s.toArray⟩ : ByteArray))[j]? = some x → w.cell? ⟨k, d + 0 + j, none⟩ = some (.string x) := by
    intro j x hx
    have h5 := strs_get q3 hx
    have hjl : j < ss.length := by
      have := (List.getElem?_eq_some_iff.1 hx).1
      rwa [hxl] at this
    rw [List.getElem?_take, if_pos (by simpa using hjl), List.getElem?_drop] at h5
    simp only [World.cell?, q1, Option.isSome_none, Bool.false_eq_true, if_false]
    rw [← Array.getElem?_toList, Nat.add_zero]
    exact h5
  have K := Any.strings_Join_48 L X k (d + 0) c' (ss.map fun s => (⟨s.toArray⟩ : ByteArray)) S w hcells (hH.lt _ _ _ hi) (by rw [hxl]; omega) (by rw [hxl]; exact g1) (by rw [hj]; omega)
  rw [hf, hxl, hj] at K
  refine K.mono fun e w' ⟨he, hb⟩ => ?_
  subst he
  refine ⟨_, rfl, ?_, hb.os, hb.output, hb.size, fun b hlt _ => hb.block b hlt⟩
  exact VR.str (ρ := rho0 g) ⟨res.toArray⟩
end Go.CM
