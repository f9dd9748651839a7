/- A sheet that is handed in: what memory says of it. No condition, no program. -/
import Derived.Test.YtmgpjfnlciapkaaDoorYA
import Derived.Test.YtmgpjfnlciapkaaDoorXLi
import Derived.Test.YtmgpjfnlciapkaaDoorCmZd
noncomputable section
namespace Go.CM.Tt
set_option linter.unusedVariables false
set_option linter.unusedSimpArgs false
open Go.CM
theorem choose_list {α β : Type} {R : α → β → Prop} : ∀ {xs : List α}, (∀ x ∈ xs, ∃ y, R x y) → ∃ ys : List β, ys.length = xs.length ∧ ∀ (j : Nat) (x : α) (y : β), xs[j]? = some x → ys[j]? = some y → R x y
  | [], _ => ⟨[], rfl, fun j x y h => by simp at h⟩
  | x :: xs, h => by
    obtain ⟨y, hy⟩ := h x (by simp)
    obtain ⟨ys, h1, h2⟩ := choose_list (R := R) (xs := xs) fun z hz => h z (List.mem_cons_of_mem _ hz)
    refine ⟨y :: ys, by simp [h1], fun j a b ha hb => ?_⟩
    cases j with
    | zero => simp at ha hb; subst ha hb; exact hy
    | succ j => exact h2 j a b (by simpa using ha) (by simpa using hb)
theorem rep_int {h : Heap} {k : IntKind} {vs : List CV} {d : Dat} (r : Rep h (.int k) vs d) : ∃ n, vs = [.int k n] := by
  cases r with
  | int _ n _ => exact ⟨n, rfl⟩
theorem rep_str {h : Heap} {vs : List CV} {d : Dat} (r : Rep h .str vs d) : ∃ s : Str, vs = [.str s] := by
  cases r with
  | str s _ => exact ⟨s, rfl⟩
theorem rep_bool {h : Heap} {vs : List CV} {d : Dat} (r : Rep h .bool vs d) : ∃ b, vs = [.bool b] := by
  cases r with
  | bool b => exact ⟨b, rfl⟩
theorem rep_slice {h : Heap} {e : PT} {vs : List CV} {d : Dat} (r : Rep h (.slice e) vs d) : ∃ v vss, vs = [v] ∧ SlG h e.size v vss ∧ ∀ u ∈ vss, ∃ d, Rep h e u d := by
  obtain ⟨v, ds, rfl, rfl⟩ : ∃ v ds, vs = [v] ∧ d = .row ds := by
    cases r with
    | nil => exact ⟨_, _, rfl, rfl⟩
    | emp => exact ⟨_, _, rfl, rfl⟩
    | row => exact ⟨_, _, rfl, rfl⟩
  obtain ⟨vss, h1, h2, h3⟩ := r.sl
  refine ⟨v, vss, rfl, h1, fun u hu => ?_⟩
  obtain ⟨j, hj⟩ := List.getElem?_of_mem hu
  have hl := (List.getElem?_eq_some_iff.1 hj).1
  exact ⟨_, h3 j u _ hj (List.getElem?_eq_getElem (by omega))⟩
theorem rep_struct {h : Heap} {Ts : List PT} {vs : List CV} {d : Dat} (r : Rep h (.struct Ts) vs d) : ∃ vss : List (List CV), vs = vss.flatten ∧ vss.length = Ts.length ∧ ∀ (j : Nat) (T : PT) (u : List CV), Ts[j]? = some T → vss[j]? = some u → ∃ d, Rep h T u d := by
  cases r with
  | struct _ vss ds h1 h2 hr =>
    refine ⟨vss, rfl, h1, fun j T u hT hu => ?_⟩
    have hl := (List.getElem?_eq_some_iff.1 hT).1
    exact ⟨_, hr j T u _ hT hu (List.getElem?_eq_getElem (by omega))⟩

theorem rep_sl {h : Heap} {α : Type} [Rp α] {T : PT} {vs : List CV} {d : Dat} (hz : T.size = Rp.z α) (f : ∀ vs d, Rep h T vs d → ∃ a : α, Rp.R h vs a) (r : Rep h (.slice T) vs d) : ∃ (v : CV) (l : List α), vs = [v] ∧ Sl h v l := by
  obtain ⟨v, vss, rfl, h1, h2⟩ := rep_slice r
  obtain ⟨l, l1, l2⟩ := choose_list (R := fun (x : List CV) (a : α) => Rp.R h x a) (xs := vss) fun x hx => by
    obtain ⟨d, hd⟩ := h2 x hx
    exact f x d hd
  exact ⟨v, l, rfl, vss, by rw [← hz]; exact h1, l1.symm, l2⟩
theorem rep_sstr {h : Heap} {vs : List CV} {d : Dat} (r : Rep h (.slice .str) vs d) : ∃ (v : CV) (l : List Str), vs = [v] ∧ Sl h v l := rep_sl rfl (fun vs d r => rep_str r) r
theorem rep_sint {h : Heap} {vs : List CV} {d : Dat} (r : Rep h (.slice (.int .i64)) vs d) : ∃ (v : CV) (l : List Int), vs = [v] ∧ Sl h v l := rep_sl rfl (fun vs d r => rep_int r) r
def ptTimes : PT := .struct [.int .i64, .int .i64, .int .i64]
theorem rep_times {h : Heap} {vs : List CV} {d : Dat} (r : Rep h ptTimes vs d) : ∃ x : Times, Rp.R h vs x := by
  obtain ⟨vss, rfl, hl, hr⟩ := rep_struct r
  match vss, hl with
  | [c0, c1, c2], _ =>
    obtain ⟨_, r0⟩ := hr 0 _ c0 rfl rfl
    obtain ⟨x0, rfl⟩ := rep_int r0
    obtain ⟨_, r1⟩ := hr 1 _ c1 rfl rfl
    obtain ⟨x1, rfl⟩ := rep_int r1
    obtain ⟨_, r2⟩ := hr 2 _ c2 rfl rfl
    obtain ⟨x2, rfl⟩ := rep_int r2
    exact ⟨⟨x0, x1, x2⟩, rfl⟩
def ptPath : PT := .struct [.str, .str, .str, .int .i64]
theorem rep_path {h : Heap} {vs : List CV} {d : Dat} (r : Rep h ptPath vs d) : ∃ x : PathS, Rp.R h vs x := by
  obtain ⟨vss, rfl, hl, hr⟩ := rep_struct r
  match vss, hl with
  | [c0, c1, c2, c3], _ =>
    obtain ⟨_, r0⟩ := hr 0 _ c0 rfl rfl
    obtain ⟨x0, rfl⟩ := rep_str r0
    obtain ⟨_, r1⟩ := hr 1 _ c1 rfl rfl
    obtain ⟨x1, rfl⟩ := rep_str r1
    obtain ⟨_, r2⟩ := hr 2 _ c2 rfl rfl
    obtain ⟨x2, rfl⟩ := rep_str r2
    obtain ⟨_, r3⟩ := hr 3 _ c3 rfl rfl
    obtain ⟨x3, rfl⟩ := rep_int r3
    exact ⟨⟨x0, x1, x2, x3⟩, rfl⟩
def ptDoor : PT := .struct [.str, .str, .str, .int .i64, ptTimes]
theorem rep_door {h : Heap} {vs : List CV} {d : Dat} (r : Rep h ptDoor vs d) : ∃ x : DoorS, Rp.R h vs x := by
  obtain ⟨vss, rfl, hl, hr⟩ := rep_struct r
  match vss, hl with
  | [c0, c1, c2, c3, c4], _ =>
    obtain ⟨_, r0⟩ := hr 0 _ c0 rfl rfl
    obtain ⟨x0, rfl⟩ := rep_str r0
    obtain ⟨_, r1⟩ := hr 1 _ c1 rfl rfl
    obtain ⟨x1, rfl⟩ := rep_str r1
    obtain ⟨_, r2⟩ := hr 2 _ c2 rfl rfl
    obtain ⟨x2, rfl⟩ := rep_str r2
    obtain ⟨_, r3⟩ := hr 3 _ c3 rfl rfl
    obtain ⟨x3, rfl⟩ := rep_int r3
    obtain ⟨_, r4⟩ := hr 4 _ c4 rfl rfl
    obtain ⟨x4, rt⟩ := rep_times r4
    have rt : c4 = x4.enc := rt
    subst rt
    exact ⟨⟨x0, x1, x2, x3, x4⟩, rfl⟩
def ptTrip : PT := .struct [.str, .str, .int .i64, .int .i64, .int .i64]
theorem rep_trip {h : Heap} {vs : List CV} {d : Dat} (r : Rep h ptTrip vs d) : ∃ x : TripS, Rp.R h vs x := by
  obtain ⟨vss, rfl, hl, hr⟩ := rep_struct r
  match vss, hl with
  | [c0, c1, c2, c3, c4], _ =>
    obtain ⟨_, r0⟩ := hr 0 _ c0 rfl rfl
    obtain ⟨x0, rfl⟩ := rep_str r0
    obtain ⟨_, r1⟩ := hr 1 _ c1 rfl rfl
    obtain ⟨x1, rfl⟩ := rep_str r1
    obtain ⟨_, r2⟩ := hr 2 _ c2 rfl rfl
    obtain ⟨x2, rfl⟩ := rep_int r2
    obtain ⟨_, r3⟩ := hr 3 _ c3 rfl rfl
    obtain ⟨x3, rfl⟩ := rep_int r3
    obtain ⟨_, r4⟩ := hr 4 _ c4 rfl rfl
    obtain ⟨x4, rfl⟩ := rep_int r4
    exact ⟨⟨x0, x1, x2, x3, x4⟩, rfl⟩
def ptHaz : PT := .struct [.str, .str, ptTimes]
theorem rep_haz {h : Heap} {vs : List CV} {d : Dat} (r : Rep h ptHaz vs d) : ∃ x : HazS, Rp.R h vs x := by
  obtain ⟨vss, rfl, hl, hr⟩ := rep_struct r
  match vss, hl with
  | [c0, c1, c2], _ =>
    obtain ⟨_, r0⟩ := hr 0 _ c0 rfl rfl
    obtain ⟨x0, rfl⟩ := rep_str r0
    obtain ⟨_, r1⟩ := hr 1 _ c1 rfl rfl
    obtain ⟨x1, rfl⟩ := rep_str r1
    obtain ⟨_, r2⟩ := hr 2 _ c2 rfl rfl
    obtain ⟨x2, rt⟩ := rep_times r2
    have rt : c2 = x2.enc := rt
    subst rt
    exact ⟨⟨x0, x1, x2⟩, rfl⟩
def ptRoute : PT := .struct [.str, .slice .str, .slice (.int .i64), .slice (.int .i64)]
theorem rep_route {h : Heap} {vs : List CV} {d : Dat} (r : Rep h ptRoute vs d) : ∃ x : RouteS, Rp.R h vs x := by
  obtain ⟨vss, rfl, hl, hr⟩ := rep_struct r
  match vss, hl with
  | [c0, c1, c2, c3], _ =>
    obtain ⟨_, r0⟩ := hr 0 _ c0 rfl rfl
    obtain ⟨x0, rfl⟩ := rep_str r0
    obtain ⟨_, r1⟩ := hr 1 _ c1 rfl rfl
    obtain ⟨v1, x1, rfl, s1⟩ := rep_sstr r1
    obtain ⟨_, r2⟩ := hr 2 _ c2 rfl rfl
    obtain ⟨v2, x2, rfl, s2⟩ := rep_sint r2
    obtain ⟨_, r3⟩ := hr 3 _ c3 rfl rfl
    obtain ⟨v3, x3, rfl, s3⟩ := rep_sint r3
    exact ⟨⟨x0, x1, x2, x3⟩, v1, v2, v3, rfl, s1, s2, s3⟩
def ptSheet : PT := .struct [.int .i64, .slice .str, .slice ptPath, .slice ptDoor, .slice ptRoute, .slice ptTrip, .slice ptHaz]
theorem rep_sheet {h : Heap} {vs : List CV} {d : Dat} (r : Rep h ptSheet vs d) : ∃ x : SheetD, Rp.R h vs x := by
  obtain ⟨vss, rfl, hl, hr⟩ := rep_struct r
  match vss, hl with
  | [c0, c1, c2, c3, c4, c5, c6], _ =>
    obtain ⟨_, r0⟩ := hr 0 _ c0 rfl rfl
    obtain ⟨x0, rfl⟩ := rep_int r0
    obtain ⟨_, r1⟩ := hr 1 _ c1 rfl rfl
    obtain ⟨v1, x1, rfl, s1⟩ := rep_sstr r1
    obtain ⟨_, r2⟩ := hr 2 _ c2 rfl rfl
    obtain ⟨v2, x2, rfl, s2⟩ := rep_sl (α := PathS) rfl (fun vs d r => rep_path r) r2
    obtain ⟨_, r3⟩ := hr 3 _ c3 rfl rfl
    obtain ⟨v3, x3, rfl, s3⟩ := rep_sl (α := DoorS) rfl (fun vs d r => rep_door r) r3
    obtain ⟨_, r4⟩ := hr 4 _ c4 rfl rfl
    obtain ⟨v4, x4, rfl, s4⟩ := rep_sl (α := RouteS) rfl (fun vs d r => rep_route r) r4
    obtain ⟨_, r5⟩ := hr 5 _ c5 rfl rfl
    obtain ⟨v5, x5, rfl, s5⟩ := rep_sl (α := TripS) rfl (fun vs d r => rep_trip r) r5
    obtain ⟨_, r6⟩ := hr 6 _ c6 rfl rfl
    obtain ⟨v6, x6, rfl, s6⟩ := rep_sl (α := HazS) rfl (fun vs d r => rep_haz r) r6
    exact ⟨⟨x0, x1, x2, x3, x4, x5, x6⟩, v1, v2, v3, v4, v5, v6, rfl, s1, s2, s3, s4, s5, s6⟩
end Go.CM.Tt

noncomputable section
namespace Go.CM
set_option linter.unusedVariables false
set_option linter.unusedSimpArgs false
theorem envW_small2 {P : Program} {tyL : List (Nat × TyS)} {fnL : List (Nat × FnS)} {g : Nat} {kn : List KE} {rows : List (Nat × List CV)} (ht : ∀ p ∈ tyL, tyOf P p.1 p.2.cmp = some p.2 ∧ (p.2.cmp = true → cmpB P p.1 = true))
    (hf : ∀ p ∈ fnL, ∃ fn, P.funcs[p.1]? = some fn ∧ p.2 = fnOf fn ∧ fnGood fn = true) (hm : P.follows .mixedOrders = true) (hr : rowsGood g rows = true) (hk : ∀ e ∈ kn, KnownOk P g rows e) : EnvW P ⟨lk tyL, lk fnL, g, kn, rows⟩ := by
  have row : ∀ f s, lk fnL f = some s → ∃ fn, P.funcs[f]? = some fn ∧ s = ⟨fn.ntmps, fn.results.toList, fn.body⟩ ∧ fnGood fn = true := by
    intro f s h
    obtain ⟨fn, h1, h2, h3⟩ := hf _ (lk_mem h)
    exact ⟨fn, h1, h2, h3⟩
  refine ⟨⟨fun t s h => ?_, fun f s h => ?_⟩, fun f s c h hb => ?_, fun f s fn h hfn => ?_, hm, hk, fun r hmm => ?_⟩
  · have h1 := ht _ (lk_mem h)
    exact ⟨h1.1, fun e => cmpB_ok (h1.2 e)⟩
  · obtain ⟨fn, h1, rfl, _⟩ := row f s h
    exact ⟨fn, h1, rfl, rfl, rfl⟩
  · obtain ⟨fn, h1, rfl, h2⟩ := row f s h
    unfold fnGood at h2
    rw [Bool.and_eq_true] at h2
    have hb : fn.body = some c := hb
    rw [hb] at h2
    exact h2.2
  · obtain ⟨fn', h1, rfl, h2⟩ := row f s h
    rw [h1] at hfn
    cases hfn
    unfold fnGood at h2
    rw [Bool.and_eq_true] at h2
    simpa using h2.1
  · have := List.all_eq_true.1 hr r hmm
    rw [Bool.and_eq_true] at this
    exact ⟨by have := this.1; rw [Nat.blt_eq] at this; exact this, this.2⟩

end Go.CM
