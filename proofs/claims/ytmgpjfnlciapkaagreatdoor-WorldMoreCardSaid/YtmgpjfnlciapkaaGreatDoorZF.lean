/- A sheet that is handed in: what memory says of it. No condition, no program. -/
import Derived.Test.YtmgpjfnlciapkaaGreatDoorYA
import Derived.Test.YtmgpjfnlciapkaaGreatDoorXMa
import Derived.Test.YtmgpjfnlciapkaaGreatDoorCmZd
import Derived.Test.YtmgpjfnlciapkaaGreatDoorCmV
import Derived.KernelRfl
import Derived.Test.YtmgpjfnlciapkaaGreatDoorYC
import Derived.Test.YtmgpjfnlciapkaaGreatDoorZT
set_option linter.unusedVariables false
set_option linter.unusedSimpArgs false
noncomputable section
namespace Go.CM.Tt
open Go.CM
theorem choose_list {α β : Type} {R : α → β → Prop} : ∀ {xs : List α}, (∀ x ∈ xs, ∃ y, R x y) → ∃ ys : List β, ys.length = xs.length ∧ ∀ (j : Nat) (x : α) (y : β), xs[j]? = some x → ys[j]? = some y → R x y
  | [], _ => ⟨[], rfl, fun j x y h => by simp at h⟩
  | x :: xs, h => by
    obtain ⟨y, hy⟩ := h x (by simp)
    obtain ⟨ys, h1, h2⟩ := choose_list (R := R) (xs := xs) fun z hz => h z (List.mem_cons_of_mem _ hz)
    refine ⟨y :: ys, by simp [h1], fun j a b ha hb => ?_⟩
    cases j with
    | zero => simp at ha hb; subst ha hb; exact hy
    | succ j => exact h2 j a b (by simpa using ha) (by simpa using hb)
theorem rep_int {h : Heap} {k : IntKind} {vs : List CV} {d : Dat} (r : Rep h (.int k) vs d) : ∃ n, vs = [.int k n] := by
  cases r with
  | int _ n _ => exact ⟨n, rfl⟩
theorem rep_str {h : Heap} {vs : List CV} {d : Dat} (r : Rep h .str vs d) : ∃ s : Str, vs = [.str s] := by
  cases r with
  | str s _ => exact ⟨s, rfl⟩
theorem rep_slice {h : Heap} {e : PT} {vs : List CV} {d : Dat} (r : Rep h (.slice e) vs d) : ∃ v vss, vs = [v] ∧ SlG h e.size v vss ∧ ∀ u ∈ vss, ∃ d, Rep h e u d := by
  obtain ⟨v, ds, rfl, rfl⟩ : ∃ v ds, vs = [v] ∧ d = .row ds := by
    cases r with
    | nil => exact ⟨_, _, rfl, rfl⟩
    | emp => exact ⟨_, _, rfl, rfl⟩
    | row => exact ⟨_, _, rfl, rfl⟩
  obtain ⟨vss, h1, h2, h3⟩ := r.sl
  refine ⟨v, vss, rfl, h1, fun u hu => ?_⟩
  obtain ⟨j, hj⟩ := List.getElem?_of_mem hu
  have hl := (List.getElem?_eq_some_iff.1 hj).1
  exact ⟨_, h3 j u _ hj (List.getElem?_eq_getElem (by omega))⟩
theorem rep_struct {h : Heap} {Ts : List PT} {vs : List CV} {d : Dat} (r : Rep h (.struct Ts) vs d) : ∃ vss : List (List CV), vs = vss.flatten ∧ vss.length = Ts.length ∧ ∀ (j : Nat) (T : PT) (u : List CV), Ts[j]? = some T → vss[j]? = some u → ∃ d, Rep h T u d := by
  cases r with
  | struct _ vss ds h1 h2 hr =>
    refine ⟨vss, rfl, h1, fun j T u hT hu => ?_⟩
    have hl := (List.getElem?_eq_some_iff.1 hT).1
    exact ⟨_, hr j T u _ hT hu (List.getElem?_eq_getElem (by omega))⟩
theorem rep_sl {h : Heap} {α : Type} [Rp α] {T : PT} {vs : List CV} {d : Dat} (hz : T.size = Rp.z α) (f : ∀ vs d, Rep h T vs d → ∃ a : α, Rp.R h vs a) (r : Rep h (.slice T) vs d) : ∃ (v : CV) (l : List α), vs = [v] ∧ Sl h v l := by
  obtain ⟨v, vss, rfl, h1, h2⟩ := rep_slice r
  obtain ⟨l, l1, l2⟩ := choose_list (R := fun (x : List CV) (a : α) => Rp.R h x a) (xs := vss) fun x hx => by
    obtain ⟨d, hd⟩ := h2 x hx
    exact f x d hd
  exact ⟨v, l, rfl, vss, by rw [← hz]; exact h1, l1.symm, l2⟩
theorem rep_sstr {h : Heap} {vs : List CV} {d : Dat} (r : Rep h (.slice .str) vs d) : ∃ (v : CV) (l : List Str), vs = [v] ∧ Sl h v l := rep_sl rfl (fun vs d r => rep_str r) r
theorem rep_sint {h : Heap} {vs : List CV} {d : Dat} (r : Rep h (.slice (.int .i64)) vs d) : ∃ (v : CV) (l : List Int), vs = [v] ∧ Sl h v l := rep_sl rfl (fun vs d r => rep_int r) r
def ptTimes : PT := .struct [.int .i64, .int .i64, .int .i64]
theorem rep_times {h : Heap} {vs : List CV} {d : Dat} (r : Rep h ptTimes vs d) : ∃ x : Times, Rp.R h vs x := by
  obtain ⟨vss, rfl, hl, hr⟩ := rep_struct r
  match vss, hl with
  | [c0, c1, c2], _ =>
    obtain ⟨_, r0⟩ := hr 0 _ c0 rfl rfl
    obtain ⟨x0, rfl⟩ := rep_int r0
    obtain ⟨_, r1⟩ := hr 1 _ c1 rfl rfl
    obtain ⟨x1, rfl⟩ := rep_int r1
    obtain ⟨_, r2⟩ := hr 2 _ c2 rfl rfl
    obtain ⟨x2, rfl⟩ := rep_int r2
    exact ⟨⟨x0, x1, x2⟩, rfl⟩
def ptPath : PT := .struct [.str, .str, .str, .int .i64]
theorem rep_path {h : Heap} {vs : List CV} {d : Dat} (r : Rep h ptPath vs d) : ∃ x : PathS, Rp.R h vs x := by
  obtain ⟨vss, rfl, hl, hr⟩ := rep_struct r
  match vss, hl with
  | [c0, c1, c2, c3], _ =>
    obtain ⟨_, r0⟩ := hr 0 _ c0 rfl rfl
    obtain ⟨x0, rfl⟩ := rep_str r0
    obtain ⟨_, r1⟩ := hr 1 _ c1 rfl rfl
    obtain ⟨x1, rfl⟩ := rep_str r1
    obtain ⟨_, r2⟩ := hr 2 _ c2 rfl rfl
    obtain ⟨x2, rfl⟩ := rep_str r2
    obtain ⟨_, r3⟩ := hr 3 _ c3 rfl rfl
    obtain ⟨x3, rfl⟩ := rep_int r3
    exact ⟨⟨x0, x1, x2, x3⟩, rfl⟩
def ptDoor : PT := .struct [.str, .str, .str, .int .i64, ptTimes]
theorem rep_door {h : Heap} {vs : List CV} {d : Dat} (r : Rep h ptDoor vs d) : ∃ x : DoorS, Rp.R h vs x := by
  obtain ⟨vss, rfl, hl, hr⟩ := rep_struct r
  match vss, hl with
  | [c0, c1, c2, c3, c4], _ =>
    obtain ⟨_, r0⟩ := hr 0 _ c0 rfl rfl
    obtain ⟨x0, rfl⟩ := rep_str r0
    obtain ⟨_, r1⟩ := hr 1 _ c1 rfl rfl
    obtain ⟨x1, rfl⟩ := rep_str r1
    obtain ⟨_, r2⟩ := hr 2 _ c2 rfl rfl
    obtain ⟨x2, rfl⟩ := rep_str r2
    obtain ⟨_, r3⟩ := hr 3 _ c3 rfl rfl
    obtain ⟨x3, rfl⟩ := rep_int r3
    obtain ⟨_, r4⟩ := hr 4 _ c4 rfl rfl
    obtain ⟨x4, rt⟩ := rep_times r4
    have rt : c4 = x4.enc := rt
    subst rt
    exact ⟨⟨x0, x1, x2, x3, x4⟩, rfl⟩
def ptTrip : PT := .struct [.str, .str, .int .i64, .int .i64, .int .i64]
theorem rep_trip {h : Heap} {vs : List CV} {d : Dat} (r : Rep h ptTrip vs d) : ∃ x : TripS, Rp.R h vs x := by
  obtain ⟨vss, rfl, hl, hr⟩ := rep_struct r
  match vss, hl with
  | [c0, c1, c2, c3, c4], _ =>
    obtain ⟨_, r0⟩ := hr 0 _ c0 rfl rfl
    obtain ⟨x0, rfl⟩ := rep_str r0
    obtain ⟨_, r1⟩ := hr 1 _ c1 rfl rfl
    obtain ⟨x1, rfl⟩ := rep_str r1
    obtain ⟨_, r2⟩ := hr 2 _ c2 rfl rfl
    obtain ⟨x2, rfl⟩ := rep_int r2
    obtain ⟨_, r3⟩ := hr 3 _ c3 rfl rfl
    obtain ⟨x3, rfl⟩ := rep_int r3
    obtain ⟨_, r4⟩ := hr 4 _ c4 rfl rfl
    obtain ⟨x4, rfl⟩ := rep_int r4
    exact ⟨⟨x0, x1, x2, x3, x4⟩, rfl⟩
def ptHaz : PT := .struct [.str, .str, ptTimes]
theorem rep_haz {h : Heap} {vs : List CV} {d : Dat} (r : Rep h ptHaz vs d) : ∃ x : HazS, Rp.R h vs x := by
  obtain ⟨vss, rfl, hl, hr⟩ := rep_struct r
  match vss, hl with
  | [c0, c1, c2], _ =>
    obtain ⟨_, r0⟩ := hr 0 _ c0 rfl rfl
    obtain ⟨x0, rfl⟩ := rep_str r0
    obtain ⟨_, r1⟩ := hr 1 _ c1 rfl rfl
    obtain ⟨x1, rfl⟩ := rep_str r1
    obtain ⟨_, r2⟩ := hr 2 _ c2 rfl rfl
    obtain ⟨x2, rt⟩ := rep_times r2
    have rt : c2 = x2.enc := rt
    subst rt
    exact ⟨⟨x0, x1, x2⟩, rfl⟩
def ptRoute : PT := .struct [.str, .slice .str, .slice (.int .i64), .slice (.int .i64)]
theorem rep_route {h : Heap} {vs : List CV} {d : Dat} (r : Rep h ptRoute vs d) : ∃ x : RouteS, Rp.R h vs x := by
  obtain ⟨vss, rfl, hl, hr⟩ := rep_struct r
  match vss, hl with
  | [c0, c1, c2, c3], _ =>
    obtain ⟨_, r0⟩ := hr 0 _ c0 rfl rfl
    obtain ⟨x0, rfl⟩ := rep_str r0
    obtain ⟨_, r1⟩ := hr 1 _ c1 rfl rfl
    obtain ⟨v1, x1, rfl, s1⟩ := rep_sstr r1
    obtain ⟨_, r2⟩ := hr 2 _ c2 rfl rfl
    obtain ⟨v2, x2, rfl, s2⟩ := rep_sint r2
    obtain ⟨_, r3⟩ := hr 3 _ c3 rfl rfl
    obtain ⟨v3, x3, rfl, s3⟩ := rep_sint r3
    exact ⟨⟨x0, x1, x2, x3⟩, v1, v2, v3, rfl, s1, s2, s3⟩
def ptSheet : PT := .struct [.int .i64, .slice .str, .slice ptPath, .slice ptDoor, .slice ptRoute, .slice ptTrip, .slice ptHaz]
theorem rep_sheet {h : Heap} {vs : List CV} {d : Dat} (r : Rep h ptSheet vs d) : ∃ x : SheetD, Rp.R h vs x := by
  obtain ⟨vss, rfl, hl, hr⟩ := rep_struct r
  match vss, hl with
  | [c0, c1, c2, c3, c4, c5, c6], _ =>
    obtain ⟨_, r0⟩ := hr 0 _ c0 rfl rfl
    obtain ⟨x0, rfl⟩ := rep_int r0
    obtain ⟨_, r1⟩ := hr 1 _ c1 rfl rfl
    obtain ⟨v1, x1, rfl, s1⟩ := rep_sstr r1
    obtain ⟨_, r2⟩ := hr 2 _ c2 rfl rfl
    obtain ⟨v2, x2, rfl, s2⟩ := rep_sl (α := PathS) rfl (fun vs d r => rep_path r) r2
    obtain ⟨_, r3⟩ := hr 3 _ c3 rfl rfl
    obtain ⟨v3, x3, rfl, s3⟩ := rep_sl (α := DoorS) rfl (fun vs d r => rep_door r) r3
    obtain ⟨_, r4⟩ := hr 4 _ c4 rfl rfl
    obtain ⟨v4, x4, rfl, s4⟩ := rep_sl (α := RouteS) rfl (fun vs d r => rep_route r) r4
    obtain ⟨_, r5⟩ := hr 5 _ c5 rfl rfl
    obtain ⟨v5, x5, rfl, s5⟩ := rep_sl (α := TripS) rfl (fun vs d r => rep_trip r) r5
    obtain ⟨_, r6⟩ := hr 6 _ c6 rfl rfl
    obtain ⟨v6, x6, rfl, s6⟩ := rep_sl (α := HazS) rfl (fun vs d r => rep_haz r) r6
    exact ⟨⟨x0, x1, x2, x3, x4, x5, x6⟩, v1, v2, v3, v4, v5, v6, rfl, s1, s2, s3, s4, s5, s6⟩
end Go.CM.Tt

noncomputable section
namespace Go.CM
theorem envW_small2 {P : Program} {tyL : List (Nat × TyS)} {fnL : List (Nat × FnS)} {g : Nat} {kn : List KE} {rows : List (Nat × List CV)} (ht : ∀ p ∈ tyL, tyOf P p.1 p.2.cmp = some p.2 ∧ (p.2.cmp = true → cmpB P p.1 = true))
    (hf : ∀ p ∈ fnL, ∃ fn, P.funcs[p.1]? = some fn ∧ p.2 = fnOf fn ∧ fnGood fn = true) (hm : P.follows .mixedOrders = true) (hr : rowsGood g rows = true) (hk : ∀ e ∈ kn, KnownOk P g rows e) : EnvW P ⟨lk tyL, lk fnL, g, kn, rows⟩ := by
  have row : ∀ f s, lk fnL f = some s → ∃ fn, P.funcs[f]? = some fn ∧ s = ⟨fn.ntmps, fn.results.toList, fn.body⟩ ∧ fnGood fn = true := by
    intro f s h
    obtain ⟨fn, h1, h2, h3⟩ := hf _ (lk_mem h)
    exact ⟨fn, h1, h2, h3⟩
  refine ⟨⟨fun t s h => ?_, fun f s h => ?_⟩, fun f s c h hb => ?_, fun f s fn h hfn => ?_, hm, hk, fun r hmm => ?_⟩
  · have h1 := ht _ (lk_mem h)
    exact ⟨h1.1, fun e => cmpB_ok (h1.2 e)⟩
  · obtain ⟨fn, h1, rfl, _⟩ := row f s h
    exact ⟨fn, h1, rfl, rfl, rfl⟩
  · obtain ⟨fn, h1, rfl, h2⟩ := row f s h
    unfold fnGood at h2
    rw [Bool.and_eq_true] at h2
    have hb : fn.body = some c := hb
    rw [hb] at h2
    exact h2.2
  · obtain ⟨fn', h1, rfl, h2⟩ := row f s h
    rw [h1] at hfn
    cases hfn
    unfold fnGood at h2
    rw [Bool.and_eq_true] at h2
    simpa using h2.1
  · have := List.all_eq_true.1 hr r hmm
    rw [Bool.and_eq_true] at this
    exact ⟨by have := this.1; rw [Nat.blt_eq] at this; exact this, this.2⟩
end Go.CM

namespace Go.Proofs.YtmgpjfnlciapkaaGreatDoor
open Go
noncomputable section
set_option maxRecDepth 1000000
namespace Kn
def fnl : List Nat := [6, 8, 22, 24, 25, 26, 27, 28, 73, 74, 75, 76, 77, 78, 79, 80, 81, 83, 84, 85, 86, 88, 90, 92, 93, 94, 95, 96, 97, 99, 103, 105, 106, 107, 108, 109, 110, 114, 115, 140, 141, 142, 143, 144, 145, 146, 147, 148, 149, 150, 161, 162, 163, 172, 173, 174, 175, 178]
def env (kn : List CM.KE) : CM.Env := CM.envOf Tryz.prog 265 [43] 206 fnl 1 kn rows
theorem fns_good : CM.fnsGood Tryz.prog fnl = true := by kernel_rfl
theorem mixed : Tryz.prog.follows .mixedOrders = true := by kernel_rfl
theorem rows_good : CM.rowsGood 1 rows = true := by kernel_rfl
theorem envW {kn : List CM.KE} (h : ∀ e ∈ kn, CM.KnownOk Tryz.prog 1 rows e) : CM.EnvW Tryz.prog (env kn) := CM.envW_of fns_good mixed rows_good h
theorem none_known : ∀ e ∈ ([] : List CM.KE), CM.KnownOk Tryz.prog 1 rows e := fun _ h => by cases h
theorem more {l : List CM.KE} {e : CM.KE} (h : ∀ e ∈ l, CM.KnownOk Tryz.prog 1 rows e) (k : CM.KnownOk Tryz.prog 1 rows e) : ∀ x ∈ l ++ [e], CM.KnownOk Tryz.prog 1 rows x := by
  intro x hx
  rcases List.mem_append.1 hx with hx | hx
  · exact h x hx
  · rw [List.mem_singleton] at hx
    rw [hx]; exact k
def e0 : CM.KE := ⟨76, [.str [97]], [], .bool true, []⟩
theorem k0 : CM.KnownOk Tryz.prog 1 rows e0 := CM.known_of (m := 1000000) (envW none_known) (by kernel_rfl)
def kn0 : List CM.KE := [] ++ [e0]
theorem ok0 : ∀ e ∈ kn0, CM.KnownOk Tryz.prog 1 rows e := more none_known k0
def e1 : CM.KE := ⟨76, [.str [98]], [], .bool true, []⟩
theorem k1 : CM.KnownOk Tryz.prog 1 rows e1 := CM.known_of (m := 1000000) (envW ok0) (by kernel_rfl)
def kn1 : List CM.KE := kn0 ++ [e1]
theorem ok1 : ∀ e ∈ kn1, CM.KnownOk Tryz.prog 1 rows e := more ok0 k1
def e2 : CM.KE := ⟨76, [.str [112]], [], .bool true, []⟩
theorem k2 : CM.KnownOk Tryz.prog 1 rows e2 := CM.known_of (m := 1000000) (envW ok1) (by kernel_rfl)
def kn2 : List CM.KE := kn1 ++ [e2]
theorem ok2 : ∀ e ∈ kn2, CM.KnownOk Tryz.prog 1 rows e := more ok1 k2
def e3 : CM.KE := ⟨76, [.str [104]], [], .bool true, []⟩
theorem k3 : CM.KnownOk Tryz.prog 1 rows e3 := CM.known_of (m := 1000000) (envW ok2) (by kernel_rfl)
def kn3 : List CM.KE := kn2 ++ [e3]
theorem ok3 : ∀ e ∈ kn3, CM.KnownOk Tryz.prog 1 rows e := more ok2 k3
def e4 : CM.KE := ⟨76, [.str [110, 111, 98, 111, 100, 121]], [], .bool true, []⟩
theorem k4 : CM.KnownOk Tryz.prog 1 rows e4 := CM.known_of (m := 1000000) (envW ok3) (by kernel_rfl)
def kn4 : List CM.KE := kn3 ++ [e4]
theorem ok4 : ∀ e ∈ kn4, CM.KnownOk Tryz.prog 1 rows e := more ok3 k4
theorem lives_known : CM.KnownOk Tryz.prog 1 rows livesE := CM.known_of (m := 1000000) (envW ok4) (by kernel_rfl)
theorem fields_known : CM.KnownOk Tryz.prog 1 rows fieldsE := CM.known_of (m := 1000000) (envW none_known) (by kernel_rfl)
theorem tys_good : ∀ p ∈ tyL, CM.tyOf Tryz.prog p.1 p.2.cmp = some p.2 ∧ (p.2.cmp = true → CM.cmpB Tryz.prog p.1 = true) := by
  intro p hp
  simp only [tyL, List.mem_cons, List.not_mem_nil, or_false] at hp
  rcases hp with rfl | rfl | rfl | rfl | rfl | rfl | rfl | rfl | rfl | rfl | rfl | rfl | rfl | rfl | rfl | rfl | rfl | rfl | rfl | rfl | rfl | rfl | rfl | rfl | rfl | rfl | rfl | rfl | rfl | rfl | rfl | rfl | rfl | rfl | rfl | rfl | rfl | rfl | rfl | rfl | rfl | rfl | rfl | rfl | rfl | rfl | rfl | rfl | rfl | rfl | rfl | rfl | rfl | rfl | rfl | rfl | rfl | rfl | rfl | rfl | rfl | rfl | rfl | rfl | rfl | rfl | rfl | rfl | rfl | rfl | rfl | rfl | rfl | rfl | rfl
  · exact ⟨by kernel_rfl, fun h => by cases h⟩
  · exact ⟨by kernel_rfl, fun h => by cases h⟩
  · exact ⟨by kernel_rfl, fun h => by cases h⟩
  · exact ⟨by kernel_rfl, fun h => by cases h⟩
  · exact ⟨by kernel_rfl, fun h => by cases h⟩
  · exact ⟨by kernel_rfl, fun h => by cases h⟩
  · exact ⟨by kernel_rfl, fun h => by cases h⟩
  · exact ⟨by kernel_rfl, fun h => by cases h⟩
  · exact ⟨by kernel_rfl, fun h => by cases h⟩
  · exact ⟨by kernel_rfl, fun h => by cases h⟩
  · exact ⟨by kernel_rfl, fun h => by cases h⟩
  · exact ⟨by kernel_rfl, fun h => by cases h⟩
  · exact ⟨by kernel_rfl, fun h => by cases h⟩
  · exact ⟨by kernel_rfl, fun h => by cases h⟩
  · exact ⟨by kernel_rfl, fun h => by cases h⟩
  · exact ⟨by kernel_rfl, fun h => by cases h⟩
  · exact ⟨by kernel_rfl, fun h => by cases h⟩
  · exact ⟨by kernel_rfl, fun h => by kernel_rfl⟩
  · exact ⟨by kernel_rfl, fun h => by cases h⟩
  · exact ⟨by kernel_rfl, fun h => by cases h⟩
  · exact ⟨by kernel_rfl, fun h => by cases h⟩
  · exact ⟨by kernel_rfl, fun h => by cases h⟩
  · exact ⟨by kernel_rfl, fun h => by cases h⟩
  · exact ⟨by kernel_rfl, fun h => by cases h⟩
  · exact ⟨by kernel_rfl, fun h => by cases h⟩
  · exact ⟨by kernel_rfl, fun h => by cases h⟩
  · exact ⟨by kernel_rfl, fun h => by kernel_rfl⟩
  · exact ⟨by kernel_rfl, fun h => by kernel_rfl⟩
  · exact ⟨by kernel_rfl, fun h => by cases h⟩
  · exact ⟨by kernel_rfl, fun h => by cases h⟩
  · exact ⟨by kernel_rfl, fun h => by kernel_rfl⟩
  · exact ⟨by kernel_rfl, fun h => by kernel_rfl⟩
  · exact ⟨by kernel_rfl, fun h => by kernel_rfl⟩
  · exact ⟨by kernel_rfl, fun h => by cases h⟩
  · exact ⟨by kernel_rfl, fun h => by cases h⟩
  · exact ⟨by kernel_rfl, fun h => by cases h⟩
  · exact ⟨by kernel_rfl, fun h => by cases h⟩
  · exact ⟨by kernel_rfl, fun h => by cases h⟩
  · exact ⟨by kernel_rfl, fun h => by cases h⟩
  · exact ⟨by kernel_rfl, fun h => by cases h⟩
  · exact ⟨by kernel_rfl, fun h => by cases h⟩
  · exact ⟨by kernel_rfl, fun h => by cases h⟩
  · exact ⟨by kernel_rfl, fun h => by cases h⟩
  · exact ⟨by kernel_rfl, fun h => by cases h⟩
  · exact ⟨by kernel_rfl, fun h => by cases h⟩
  · exact ⟨by kernel_rfl, fun h => by cases h⟩
  · exact ⟨by kernel_rfl, fun h => by cases h⟩
  · exact ⟨by kernel_rfl, fun h => by cases h⟩
  · exact ⟨by kernel_rfl, fun h => by cases h⟩
  · exact ⟨by kernel_rfl, fun h => by cases h⟩
  · exact ⟨by kernel_rfl, fun h => by cases h⟩
  · exact ⟨by kernel_rfl, fun h => by cases h⟩
  · exact ⟨by kernel_rfl, fun h => by cases h⟩
  · exact ⟨by kernel_rfl, fun h => by cases h⟩
  · exact ⟨by kernel_rfl, fun h => by cases h⟩
  · exact ⟨by kernel_rfl, fun h => by cases h⟩
  · exact ⟨by kernel_rfl, fun h => by cases h⟩
  · exact ⟨by kernel_rfl, fun h => by cases h⟩
  · exact ⟨by kernel_rfl, fun h => by cases h⟩
  · exact ⟨by kernel_rfl, fun h => by cases h⟩
  · exact ⟨by kernel_rfl, fun h => by cases h⟩
  · exact ⟨by kernel_rfl, fun h => by cases h⟩
  · exact ⟨by kernel_rfl, fun h => by cases h⟩
  · exact ⟨by kernel_rfl, fun h => by cases h⟩
  · exact ⟨by kernel_rfl, fun h => by cases h⟩
  · exact ⟨by kernel_rfl, fun h => by cases h⟩
  · exact ⟨by kernel_rfl, fun h => by cases h⟩
  · exact ⟨by kernel_rfl, fun h => by cases h⟩
  · exact ⟨by kernel_rfl, fun h => by cases h⟩
  · exact ⟨by kernel_rfl, fun h => by cases h⟩
  · exact ⟨by kernel_rfl, fun h => by cases h⟩
  · exact ⟨by kernel_rfl, fun h => by cases h⟩
  · exact ⟨by kernel_rfl, fun h => by cases h⟩
  · exact ⟨by kernel_rfl, fun h => by cases h⟩
  · exact ⟨by kernel_rfl, fun h => by cases h⟩
theorem fns_small : ∀ p ∈ fnL, ∃ fn, Tryz.prog.funcs[p.1]? = some fn ∧ p.2 = CM.fnOf fn ∧ CM.fnGood fn = true := by
  intro p hp
  simp only [fnL, List.mem_cons, List.not_mem_nil, or_false] at hp
  rcases hp with rfl | rfl | rfl | rfl | rfl | rfl | rfl | rfl | rfl | rfl | rfl | rfl | rfl | rfl | rfl | rfl | rfl | rfl | rfl | rfl | rfl | rfl | rfl | rfl | rfl | rfl | rfl | rfl | rfl | rfl | rfl | rfl | rfl | rfl | rfl | rfl | rfl | rfl | rfl | rfl | rfl | rfl | rfl | rfl | rfl | rfl | rfl | rfl | rfl | rfl | rfl | rfl | rfl | rfl | rfl | rfl | rfl | rfl | rfl | rfl | rfl | rfl | rfl | rfl | rfl | rfl | rfl | rfl | rfl | rfl | rfl | rfl | rfl | rfl | rfl | rfl | rfl | rfl | rfl | rfl | rfl | rfl | rfl | rfl | rfl | rfl | rfl | rfl | rfl | rfl | rfl | rfl | rfl | rfl | rfl | rfl | rfl | rfl | rfl | rfl | rfl | rfl | rfl | rfl | rfl | rfl | rfl | rfl | rfl | rfl | rfl | rfl | rfl | rfl | rfl | rfl | rfl | rfl | rfl | rfl | rfl | rfl | rfl | rfl | rfl | rfl | rfl | rfl | rfl | rfl | rfl | rfl | rfl | rfl | rfl | rfl | rfl | rfl | rfl | rfl | rfl | rfl | rfl | rfl | rfl | rfl | rfl | rfl | rfl | rfl | rfl | rfl | rfl | rfl | rfl | rfl | rfl | rfl | rfl | rfl | rfl | rfl | rfl | rfl | rfl | rfl | rfl | rfl | rfl | rfl | rfl
  · exact ⟨Tryz.f3, Tryz.func3, rfl, by kernel_rfl⟩
  · exact ⟨Tryz.f4, Tryz.func4, rfl, by kernel_rfl⟩
  · exact ⟨Tryz.f5, Tryz.func5, rfl, by kernel_rfl⟩
  · exact ⟨Tryz.f7, Tryz.func7, rfl, by kernel_rfl⟩
  · exact ⟨Tryz.f8, Tryz.func8, rfl, by kernel_rfl⟩
  · exact ⟨Tryz.f9, Tryz.func9, rfl, by kernel_rfl⟩
  · exact ⟨Tryz.f10, Tryz.func10, rfl, by kernel_rfl⟩
  · exact ⟨Tryz.f11, Tryz.func11, rfl, by kernel_rfl⟩
  · exact ⟨Tryz.f12, Tryz.func12, rfl, by kernel_rfl⟩
  · exact ⟨Tryz.f13, Tryz.func13, rfl, by kernel_rfl⟩
  · exact ⟨Tryz.f14, Tryz.func14, rfl, by kernel_rfl⟩
  · exact ⟨Tryz.f15, Tryz.func15, rfl, by kernel_rfl⟩
  · exact ⟨Tryz.f16, Tryz.func16, rfl, by kernel_rfl⟩
  · exact ⟨Tryz.f17, Tryz.func17, rfl, by kernel_rfl⟩
  · exact ⟨Tryz.f18, Tryz.func18, rfl, by kernel_rfl⟩
  · exact ⟨Tryz.f19, Tryz.func19, rfl, by kernel_rfl⟩
  · exact ⟨Tryz.f20, Tryz.func20, rfl, by kernel_rfl⟩
  · exact ⟨Tryz.f21, Tryz.func21, rfl, by kernel_rfl⟩
  · exact ⟨Tryz.f23, Tryz.func23, rfl, by kernel_rfl⟩
  · exact ⟨Tryz.f24, Tryz.func24, rfl, by kernel_rfl⟩
  · exact ⟨Tryz.f25, Tryz.func25, rfl, by kernel_rfl⟩
  · exact ⟨Tryz.f26, Tryz.func26, rfl, by kernel_rfl⟩
  · exact ⟨Tryz.f27, Tryz.func27, rfl, by kernel_rfl⟩
  · exact ⟨Tryz.f28, Tryz.func28, rfl, by kernel_rfl⟩
  · exact ⟨Tryz.f29, Tryz.func29, rfl, by kernel_rfl⟩
  · exact ⟨Tryz.f30, Tryz.func30, rfl, by kernel_rfl⟩
  · exact ⟨Tryz.f31, Tryz.func31, rfl, by kernel_rfl⟩
  · exact ⟨Tryz.f32, Tryz.func32, rfl, by kernel_rfl⟩
  · exact ⟨Tryz.f33, Tryz.func33, rfl, by kernel_rfl⟩
  · exact ⟨Tryz.f34, Tryz.func34, rfl, by kernel_rfl⟩
  · exact ⟨Tryz.f35, Tryz.func35, rfl, by kernel_rfl⟩
  · exact ⟨Tryz.f36, Tryz.func36, rfl, by kernel_rfl⟩
  · exact ⟨Tryz.f37, Tryz.func37, rfl, by kernel_rfl⟩
  · exact ⟨Tryz.f38, Tryz.func38, rfl, by kernel_rfl⟩
  · exact ⟨Tryz.f39, Tryz.func39, rfl, by kernel_rfl⟩
  · exact ⟨Tryz.f40, Tryz.func40, rfl, by kernel_rfl⟩
  · exact ⟨Tryz.f41, Tryz.func41, rfl, by kernel_rfl⟩
  · exact ⟨Tryz.f42, Tryz.func42, rfl, by kernel_rfl⟩
  · exact ⟨Tryz.f43, Tryz.func43, rfl, by kernel_rfl⟩
  · exact ⟨Tryz.f44, Tryz.func44, rfl, by kernel_rfl⟩
  · exact ⟨Tryz.f45, Tryz.func45, rfl, by kernel_rfl⟩
  · exact ⟨Tryz.f46, Tryz.func46, rfl, by kernel_rfl⟩
  · exact ⟨Tryz.f47, Tryz.func47, rfl, by kernel_rfl⟩
  · exact ⟨Tryz.f48, Tryz.func48, rfl, by kernel_rfl⟩
  · exact ⟨Tryz.f49, Tryz.func49, rfl, by kernel_rfl⟩
  · exact ⟨Tryz.f50, Tryz.func50, rfl, by kernel_rfl⟩
  · exact ⟨Tryz.f51, Tryz.func51, rfl, by kernel_rfl⟩
  · exact ⟨Tryz.f52, Tryz.func52, rfl, by kernel_rfl⟩
  · exact ⟨Tryz.f53, Tryz.func53, rfl, by kernel_rfl⟩
  · exact ⟨Tryz.f54, Tryz.func54, rfl, by kernel_rfl⟩
  · exact ⟨Tryz.f55, Tryz.func55, rfl, by kernel_rfl⟩
  · exact ⟨Tryz.f56, Tryz.func56, rfl, by kernel_rfl⟩
  · exact ⟨Tryz.f57, Tryz.func57, rfl, by kernel_rfl⟩
  · exact ⟨Tryz.f58, Tryz.func58, rfl, by kernel_rfl⟩
  · exact ⟨Tryz.f59, Tryz.func59, rfl, by kernel_rfl⟩
  · exact ⟨Tryz.f60, Tryz.func60, rfl, by kernel_rfl⟩
  · exact ⟨Tryz.f61, Tryz.func61, rfl, by kernel_rfl⟩
  · exact ⟨Tryz.f62, Tryz.func62, rfl, by kernel_rfl⟩
  · exact ⟨Tryz.f63, Tryz.func63, rfl, by kernel_rfl⟩
  · exact ⟨Tryz.f64, Tryz.func64, rfl, by kernel_rfl⟩
  · exact ⟨Tryz.f65, Tryz.func65, rfl, by kernel_rfl⟩
  · exact ⟨Tryz.f66, Tryz.func66, rfl, by kernel_rfl⟩
  · exact ⟨Tryz.f67, Tryz.func67, rfl, by kernel_rfl⟩
  · exact ⟨Tryz.f68, Tryz.func68, rfl, by kernel_rfl⟩
  · exact ⟨Tryz.f69, Tryz.func69, rfl, by kernel_rfl⟩
  · exact ⟨Tryz.f70, Tryz.func70, rfl, by kernel_rfl⟩
  · exact ⟨Tryz.f71, Tryz.func71, rfl, by kernel_rfl⟩
  · exact ⟨Tryz.f72, Tryz.func72, rfl, by kernel_rfl⟩
  · exact ⟨Tryz.f73, Tryz.func73, rfl, by kernel_rfl⟩
  · exact ⟨Tryz.f74, Tryz.func74, rfl, by kernel_rfl⟩
  · exact ⟨Tryz.f75, Tryz.func75, rfl, by kernel_rfl⟩
  · exact ⟨Tryz.f76, Tryz.func76, rfl, by kernel_rfl⟩
  · exact ⟨Tryz.f77, Tryz.func77, rfl, by kernel_rfl⟩
  · exact ⟨Tryz.f78, Tryz.func78, rfl, by kernel_rfl⟩
  · exact ⟨Tryz.f79, Tryz.func79, rfl, by kernel_rfl⟩
  · exact ⟨Tryz.f80, Tryz.func80, rfl, by kernel_rfl⟩
  · exact ⟨Tryz.f81, Tryz.func81, rfl, by kernel_rfl⟩
  · exact ⟨Tryz.f82, Tryz.func82, rfl, by kernel_rfl⟩
  · exact ⟨Tryz.f83, Tryz.func83, rfl, by kernel_rfl⟩
  · exact ⟨Tryz.f84, Tryz.func84, rfl, by kernel_rfl⟩
  · exact ⟨Tryz.f85, Tryz.func85, rfl, by kernel_rfl⟩
  · exact ⟨Tryz.f86, Tryz.func86, rfl, by kernel_rfl⟩
  · exact ⟨Tryz.f87, Tryz.func87, rfl, by kernel_rfl⟩
  · exact ⟨Tryz.f88, Tryz.func88, rfl, by kernel_rfl⟩
  · exact ⟨Tryz.f89, Tryz.func89, rfl, by kernel_rfl⟩
  · exact ⟨Tryz.f90, Tryz.func90, rfl, by kernel_rfl⟩
  · exact ⟨Tryz.f91, Tryz.func91, rfl, by kernel_rfl⟩
  · exact ⟨Tryz.f92, Tryz.func92, rfl, by kernel_rfl⟩
  · exact ⟨Tryz.f93, Tryz.func93, rfl, by kernel_rfl⟩
  · exact ⟨Tryz.f94, Tryz.func94, rfl, by kernel_rfl⟩
  · exact ⟨Tryz.f95, Tryz.func95, rfl, by kernel_rfl⟩
  · exact ⟨Tryz.f96, Tryz.func96, rfl, by kernel_rfl⟩
  · exact ⟨Tryz.f97, Tryz.func97, rfl, by kernel_rfl⟩
  · exact ⟨Tryz.f98, Tryz.func98, rfl, by kernel_rfl⟩
  · exact ⟨Tryz.f99, Tryz.func99, rfl, by kernel_rfl⟩
  · exact ⟨Tryz.f100, Tryz.func100, rfl, by kernel_rfl⟩
  · exact ⟨Tryz.f101, Tryz.func101, rfl, by kernel_rfl⟩
  · exact ⟨Tryz.f102, Tryz.func102, rfl, by kernel_rfl⟩
  · exact ⟨Tryz.f103, Tryz.func103, rfl, by kernel_rfl⟩
  · exact ⟨Tryz.f104, Tryz.func104, rfl, by kernel_rfl⟩
  · exact ⟨Tryz.f105, Tryz.func105, rfl, by kernel_rfl⟩
  · exact ⟨Tryz.f106, Tryz.func106, rfl, by kernel_rfl⟩
  · exact ⟨Tryz.f107, Tryz.func107, rfl, by kernel_rfl⟩
  · exact ⟨Tryz.f108, Tryz.func108, rfl, by kernel_rfl⟩
  · exact ⟨Tryz.f109, Tryz.func109, rfl, by kernel_rfl⟩
  · exact ⟨Tryz.f110, Tryz.func110, rfl, by kernel_rfl⟩
  · exact ⟨Tryz.f111, Tryz.func111, rfl, by kernel_rfl⟩
  · exact ⟨Tryz.f112, Tryz.func112, rfl, by kernel_rfl⟩
  · exact ⟨Tryz.f113, Tryz.func113, rfl, by kernel_rfl⟩
  · exact ⟨Tryz.f114, Tryz.func114, rfl, by kernel_rfl⟩
  · exact ⟨Tryz.f115, Tryz.func115, rfl, by kernel_rfl⟩
  · exact ⟨Tryz.f116, Tryz.func116, rfl, by kernel_rfl⟩
  · exact ⟨Tryz.f117, Tryz.func117, rfl, by kernel_rfl⟩
  · exact ⟨Tryz.f118, Tryz.func118, rfl, by kernel_rfl⟩
  · exact ⟨Tryz.f119, Tryz.func119, rfl, by kernel_rfl⟩
  · exact ⟨Tryz.f120, Tryz.func120, rfl, by kernel_rfl⟩
  · exact ⟨Tryz.f121, Tryz.func121, rfl, by kernel_rfl⟩
  · exact ⟨Tryz.f122, Tryz.func122, rfl, by kernel_rfl⟩
  · exact ⟨Tryz.f123, Tryz.func123, rfl, by kernel_rfl⟩
  · exact ⟨Tryz.f124, Tryz.func124, rfl, by kernel_rfl⟩
  · exact ⟨Tryz.f125, Tryz.func125, rfl, by kernel_rfl⟩
  · exact ⟨Tryz.f126, Tryz.func126, rfl, by kernel_rfl⟩
  · exact ⟨Tryz.f127, Tryz.func127, rfl, by kernel_rfl⟩
  · exact ⟨Tryz.f128, Tryz.func128, rfl, by kernel_rfl⟩
  · exact ⟨Tryz.f129, Tryz.func129, rfl, by kernel_rfl⟩
  · exact ⟨Tryz.f130, Tryz.func130, rfl, by kernel_rfl⟩
  · exact ⟨Tryz.f131, Tryz.func131, rfl, by kernel_rfl⟩
  · exact ⟨Tryz.f132, Tryz.func132, rfl, by kernel_rfl⟩
  · exact ⟨Tryz.f133, Tryz.func133, rfl, by kernel_rfl⟩
  · exact ⟨Tryz.f134, Tryz.func134, rfl, by kernel_rfl⟩
  · exact ⟨Tryz.f135, Tryz.func135, rfl, by kernel_rfl⟩
  · exact ⟨Tryz.f136, Tryz.func136, rfl, by kernel_rfl⟩
  · exact ⟨Tryz.f137, Tryz.func137, rfl, by kernel_rfl⟩
  · exact ⟨Tryz.f138, Tryz.func138, rfl, by kernel_rfl⟩
  · exact ⟨Tryz.f139, Tryz.func139, rfl, by kernel_rfl⟩
  · exact ⟨Tryz.f140, Tryz.func140, rfl, by kernel_rfl⟩
  · exact ⟨Tryz.f141, Tryz.func141, rfl, by kernel_rfl⟩
  · exact ⟨Tryz.f142, Tryz.func142, rfl, by kernel_rfl⟩
  · exact ⟨Tryz.f143, Tryz.func143, rfl, by kernel_rfl⟩
  · exact ⟨Tryz.f144, Tryz.func144, rfl, by kernel_rfl⟩
  · exact ⟨Tryz.f145, Tryz.func145, rfl, by kernel_rfl⟩
  · exact ⟨Tryz.f146, Tryz.func146, rfl, by kernel_rfl⟩
  · exact ⟨Tryz.f147, Tryz.func147, rfl, by kernel_rfl⟩
  · exact ⟨Tryz.f148, Tryz.func148, rfl, by kernel_rfl⟩
  · exact ⟨Tryz.f149, Tryz.func149, rfl, by kernel_rfl⟩
  · exact ⟨Tryz.f150, Tryz.func150, rfl, by kernel_rfl⟩
  · exact ⟨Tryz.f151, Tryz.func151, rfl, by kernel_rfl⟩
  · exact ⟨Tryz.f152, Tryz.func152, rfl, by kernel_rfl⟩
  · exact ⟨Tryz.f153, Tryz.func153, rfl, by kernel_rfl⟩
  · exact ⟨Tryz.f154, Tryz.func154, rfl, by kernel_rfl⟩
  · exact ⟨Tryz.f155, Tryz.func155, rfl, by kernel_rfl⟩
  · exact ⟨Tryz.f156, Tryz.func156, rfl, by kernel_rfl⟩
  · exact ⟨Tryz.f157, Tryz.func157, rfl, by kernel_rfl⟩
  · exact ⟨Tryz.f158, Tryz.func158, rfl, by kernel_rfl⟩
  · exact ⟨Tryz.f159, Tryz.func159, rfl, by kernel_rfl⟩
  · exact ⟨Tryz.f160, Tryz.func160, rfl, by kernel_rfl⟩
  · exact ⟨Tryz.f161, Tryz.func161, rfl, by kernel_rfl⟩
  · exact ⟨Tryz.f163, Tryz.func163, rfl, by kernel_rfl⟩
  · exact ⟨Tryz.f164, Tryz.func164, rfl, by kernel_rfl⟩
  · exact ⟨Tryz.f165, Tryz.func165, rfl, by kernel_rfl⟩
  · exact ⟨Tryz.f166, Tryz.func166, rfl, by kernel_rfl⟩
  · exact ⟨Tryz.f167, Tryz.func167, rfl, by kernel_rfl⟩
  · exact ⟨Tryz.f168, Tryz.func168, rfl, by kernel_rfl⟩
  · exact ⟨Tryz.f169, Tryz.func169, rfl, by kernel_rfl⟩
  · exact ⟨Tryz.f172, Tryz.func172, rfl, by kernel_rfl⟩
  · exact ⟨Tryz.f173, Tryz.func173, rfl, by kernel_rfl⟩
  · exact ⟨Tryz.f174, Tryz.func174, rfl, by kernel_rfl⟩
  · exact ⟨Tryz.f175, Tryz.func175, rfl, by kernel_rfl⟩
  · exact ⟨Tryz.f176, Tryz.func176, rfl, by kernel_rfl⟩
  · exact ⟨Tryz.f178, Tryz.func178, rfl, by kernel_rfl⟩
  · exact ⟨Tryz.f196, Tryz.func196, rfl, by kernel_rfl⟩
end Kn
theorem envW1 : CM.EnvW Tryz.prog E1 := CM.envW_small2 Kn.tys_good Kn.fns_small Kn.mixed Kn.rows_good (fun e he => by
  simp only [known, List.mem_cons, List.not_mem_nil, or_false] at he
  rcases he with rfl | rfl
  · exact Kn.lives_known
  · exact Kn.fields_known)
end
end Go.Proofs.YtmgpjfnlciapkaaGreatDoor

namespace Go.Proofs.YtmgpjfnlciapkaaGreatDoor
open Go Go.CM Go.CM.Tt
noncomputable section
set_option maxRecDepth 100000
theorem row_low : ∀ r ∈ rows, r.1 < nglob := by
  intro r hr
  have hr : r ∈ [(0, ascii.map (CM.CV.int .u8))] := hr
  rw [List.mem_singleton] at hr
  rw [hr]
  decide
theorem fresh_of (blks : List (List CV)) : Fresh (heapOf nglob rows blks) := fun k hk => by
  rw [heapOf_next] at hk
  cases hg : (heapOf nglob rows blks).get k with
  | none => rfl
  | some b =>
    rcases heapOf_get hg with ⟨n, cs, rfl, hn, _⟩ | ⟨cs, hm, _⟩
    · have := (List.getElem?_eq_some_iff.1 hn).1
      omega
    · have := row_low _ hm
      simp only at this
      omega
theorem rh_of (blks : List (List CV)) : RH (heapOf nglob rows blks) := ⟨rows_at (by decide) (by kernel_rfl), fun r hr => by
  rw [heapOf_next]
  have := row_low r hr
  omega⟩
theorem open_sheet {H : Type} {enc : TypeId × Value → H} {W : World} {v : Value} {d : DataW H} {ps : List MemPlace} (h : DataW.Trod enc Tryz.prog W 0 (fun _ => true) true 29 v d ps) (h1 : nglob ≤ W.heap.size) (h2 : RowsAt W rows (rho0 nglob)) :
    ∃ (bs : List ArgB) (vs : List CV) (arr : Array Value) (x : SheetD), v = .agg arr ∧ HR (rhoA nglob bs) (heapOf nglob rows (bs.map (·.cs))) W ∧ VR (rhoA nglob bs) (.agg vs) (.agg arr) ∧ Rp.R (heapOf nglob rows (bs.map (·.cs))) vs x := by
  obtain ⟨fuel, h⟩ := h
  obtain ⟨vs, bs, dd, o⟩ := open_pt (ptB_ok 10 ptSheet 29 (by kernel_rfl)) fuel _ _ h nglob
  have hpl : Placed (rhoA nglob bs) nglob bs := fun n b hb => by
    show (if nglob + n < nglob then some (nglob + n, 0) else (bs[nglob + n - nglob]?).map fun b => (b.blk, b.off)) = _
    rw [if_neg (by omega), show nglob + n - nglob = n by omega, hb]; rfl
  obtain ⟨hv, hvr⟩ := o.vr _ hpl
  have hH : HR (rhoA nglob bs) (heapOf nglob rows (bs.map (·.cs))) W := by
    refine hr_args h1 (fun r hr => envW1.rows r hr) h2 (fun b hb => ?_)
    obtain ⟨arr, ty, fz, k1, k2, k3⟩ := o.ok b hb
    exact ⟨arr, ty, fz, k1, k2, hvr b hb arr ty fz k1, k3⟩
  have hlaid : Laid (heapOf nglob rows (bs.map (·.cs))) nglob bs := fun n b hb => by
    have hn := (List.getElem?_eq_some_iff.1 hb).1
    refine ⟨?_, heapOf_at (by rw [List.getElem?_map, hb]; rfl)⟩
    rw [heapOf_next, List.length_map]
    omega
  obtain ⟨x, hx⟩ := rep_sheet (o.rep _ hlaid)
  have hva : ∃ arr, v = .agg arr := by
    have hl := hv.1
    have hlen : vs.length = 7 := Rp.len hx
    cases v with
    | agg arr => exact ⟨arr, rfl⟩
    | _ => simp [Value.cells, hlen] at hl
  obtain ⟨arr, rfl⟩ := hva
  exact ⟨bs, vs, arr, x, rfl, hH, VRs.agg hv o.one, hx⟩
end
end Go.Proofs.YtmgpjfnlciapkaaGreatDoor

namespace Go.Proofs.YtmgpjfnlciapkaaGreatDoor
open Go Go.CM Go.CM.Tt
noncomputable section
set_option maxRecDepth 100000
theorem law_runs {H : Type} {enc : TypeId × Value → H} {W : World} {v : Value} {d : DataW H} {ps : List MemPlace} (h : DataW.Trod enc Tryz.prog W 0 (fun _ => true) true 29 v d ps) (s : ByteArray) (n : Int) (h1 : nglob ≤ W.heap.size) (h2 : RowsAt W rows (rho0 nglob)) :
    Calls Tryz.prog 3 #[v, .string s, .int .i64 n] W fun e w' => ∃ x, e = .returned x ∧ VR (rho0 nglob) (.bool true) x ∧ Keep (fun _ => False) W w' := by
  obtain ⟨bs, vs, arr, x, rfl, hH, hag, hx⟩ := open_sheet h h1 h2
  have hrun : CM.W E1 (.call (.fn 3 [] []) [.agg vs, .str s.data.toList, .int .i64 n]) .leaf (heapOf E1.globs E1.rows (bs.map (·.cs))) (fun r => ∃ h', r = .val (.bool true) h') := more_w hx (rh_of _) (fresh_of _) s.data.toList n
  have hxs : VRs (rhoA E1.globs bs) [.agg vs, .str s.data.toList, .int .i64 n] [.agg arr, .string s, .int .i64 n] := VRs.cons hag (VRs.cons (.str _) (VRs.cons (.int _ _) (VRs.nil _)))
  exact run_args envW1 hrun rfl hH hxs
end
end Go.Proofs.YtmgpjfnlciapkaaGreatDoor
