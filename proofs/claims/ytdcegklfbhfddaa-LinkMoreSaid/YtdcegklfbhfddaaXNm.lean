/- A net that is handed in: what memory says of it. No condition. -/
import Derived.Test.YtdcegklfbhfddaaXNk
namespace Go.Proofs.Ytdcegklfbhfddaa
set_option linter.unusedVariables false
set_option linter.unusedSimpArgs false
open Go Go.CM
noncomputable section
set_option maxHeartbeats 4000000

def ptWin : PT := .struct [.int .i64, .int .i64]
def ptLink : PT := .struct [.int .i64, .int .i64, .int .i64, .bool, .int .i64, .slice ptWin, .slice ptWin]
def ptNet : PT := .struct [.int .i64, .slice (.slice ptWin), .slice ptLink]

theorem choose_list {α β : Type} {R : α → β → Prop} : ∀ {xs : List α}, (∀ x ∈ xs, ∃ y, R x y) → ∃ ys : List β, ys.length = xs.length ∧ ∀ (j : Nat) (x : α) (y : β), xs[j]? = some x → ys[j]? = some y → R x y
  | [], _ => ⟨[], rfl, fun j x y h => by simp at h⟩
  | x :: xs, h => by
    obtain ⟨y, hy⟩ := h x (by simp)
    obtain ⟨ys, h1, h2⟩ := choose_list (R := R) (xs := xs) fun z hz => h z (List.mem_cons_of_mem _ hz)
    refine ⟨y :: ys, by simp [h1], fun j a b ha hb => ?_⟩
    cases j with
    | zero => simp at ha hb; subst ha hb; exact hy
    | succ j => exact h2 j a b (by simpa using ha) (by simpa using hb)
theorem rep_int {h : Heap} {k : IntKind} {vs : List CV} {d : Dat} (r : Rep h (.int k) vs d) : ∃ n, vs = [.int k n] := by
  cases r with
  | int _ n _ => exact ⟨n, rfl⟩
theorem rep_bool {h : Heap} {vs : List CV} {d : Dat} (r : Rep h .bool vs d) : ∃ b, vs = [.bool b] := by
  cases r with
  | bool b => exact ⟨b, rfl⟩
theorem rep_slice {h : Heap} {e : PT} {vs : List CV} {d : Dat} (r : Rep h (.slice e) vs d) : ∃ v vss, vs = [v] ∧ SlG h e.size v vss ∧ ∀ u ∈ vss, ∃ d, Rep h e u d := by
  obtain ⟨v, ds, rfl, rfl⟩ : ∃ v ds, vs = [v] ∧ d = .row ds := by
    cases r with
    | nil => exact ⟨_, _, rfl, rfl⟩
    | emp => exact ⟨_, _, rfl, rfl⟩
    | row => exact ⟨_, _, rfl, rfl⟩
  obtain ⟨vss, h1, h2, h3⟩ := r.sl
  refine ⟨v, vss, rfl, h1, fun u hu => ?_⟩
  obtain ⟨j, hj⟩ := List.getElem?_of_mem hu
  have hl := (List.getElem?_eq_some_iff.1 hj).1
  exact ⟨_, h3 j u _ hj (List.getElem?_eq_getElem (by omega))⟩
theorem rep_struct {h : Heap} {Ts : List PT} {vs : List CV} {d : Dat} (r : Rep h (.struct Ts) vs d) : ∃ vss : List (List CV), vs = vss.flatten ∧ vss.length = Ts.length ∧ ∀ (j : Nat) (T : PT) (u : List CV), Ts[j]? = some T → vss[j]? = some u → ∃ d, Rep h T u d := by
  cases r with
  | struct _ vss ds h1 h2 hr =>
    refine ⟨vss, rfl, h1, fun j T u hT hu => ?_⟩
    have hl := (List.getElem?_eq_some_iff.1 hT).1
    exact ⟨_, hr j T u _ hT hu (List.getElem?_eq_getElem (by omega))⟩
theorem rep_win {h : Heap} {vs : List CV} {d : Dat} (r : Rep h ptWin vs d) : ∃ w, vs = winC w := by
  obtain ⟨vss, rfl, hl, hr⟩ := rep_struct r
  match vss, hl with
  | [a, b], _ =>
    obtain ⟨_, ra⟩ := hr 0 _ a rfl rfl
    obtain ⟨_, rb⟩ := hr 1 _ b rfl rfl
    obtain ⟨x, rfl⟩ := rep_int ra
    obtain ⟨y, rfl⟩ := rep_int rb
    exact ⟨(x, y), rfl⟩
theorem map_of {xs : List (List CV)} (h : ∀ x ∈ xs, ∃ w, x = winC w) : ∃ l : List (Int × Int), xs = l.map winC := by
  induction xs with
  | nil => exact ⟨[], rfl⟩
  | cons x xs ih =>
    obtain ⟨w, rfl⟩ := h x (by simp)
    obtain ⟨l, rfl⟩ := ih fun z hz => h z (List.mem_cons_of_mem _ hz)
    exact ⟨w :: l, rfl⟩
theorem rep_wins {h : Heap} {vs : List CV} {d : Dat} (r : Rep h (.slice ptWin) vs d) : ∃ v l, vs = [v] ∧ SlW h v l := by
  obtain ⟨v, vss, rfl, h1, h2⟩ := rep_slice r
  obtain ⟨l, rfl⟩ := map_of fun x hx => by
    obtain ⟨d, hd⟩ := h2 x hx
    exact rep_win hd
  exact ⟨v, l, rfl, h1⟩
theorem rep_link {h : Heap} {vs : List CV} {d : Dat} (r : Rep h ptLink vs d) : ∃ L, LinkR h vs L := by
  obtain ⟨vss, rfl, hl, hr⟩ := rep_struct r
  match vss, hl with
  | [a, b, c, e, f, g, k], _ =>
    obtain ⟨_, ra⟩ := hr 0 _ a rfl rfl
    obtain ⟨_, rb⟩ := hr 1 _ b rfl rfl
    obtain ⟨_, rc⟩ := hr 2 _ c rfl rfl
    obtain ⟨_, re⟩ := hr 3 _ e rfl rfl
    obtain ⟨_, rf⟩ := hr 4 _ f rfl rfl
    obtain ⟨_, rg⟩ := hr 5 _ g rfl rfl
    obtain ⟨_, rk⟩ := hr 6 _ k rfl rfl
    obtain ⟨a, rfl⟩ := rep_int ra
    obtain ⟨b, rfl⟩ := rep_int rb
    obtain ⟨c, rfl⟩ := rep_int rc
    obtain ⟨e, rfl⟩ := rep_bool re
    obtain ⟨f, rfl⟩ := rep_int rf
    obtain ⟨vo, lo, rfl, so⟩ := rep_wins rg
    obtain ⟨vk, lk, rfl, sk⟩ := rep_wins rk
    exact ⟨⟨a, b, c, e, f, lo, lk⟩, vo, vk, rfl, so, sk⟩
theorem rep_net {h : Heap} {vs : List CV} {d : Dat} (r : Rep h ptNet vs d) : ∃ hz vc vl cl l, vs = [.int .i64 hz, vc, vl] ∧ SlC h vc cl ∧ SlL h vl l := by
  obtain ⟨vss, rfl, hl, hr⟩ := rep_struct r
  match vss, hl with
  | [a, b, c], _ =>
    obtain ⟨_, ra⟩ := hr 0 _ a rfl rfl
    obtain ⟨_, rb⟩ := hr 1 _ b rfl rfl
    obtain ⟨_, rc⟩ := hr 2 _ c rfl rfl
    obtain ⟨hz, rfl⟩ := rep_int ra
    obtain ⟨vc, cs, rfl, sc, hc⟩ := rep_slice rb
    obtain ⟨vl, ls, rfl, sl, hl⟩ := rep_slice rc
    obtain ⟨cl, c1, c2⟩ := choose_list (R := fun (x : List CV) (w : List (Int × Int)) => ∃ u, x = [u] ∧ SlW h u w) (xs := cs) fun x hx => by
      obtain ⟨d, hd⟩ := hc x hx
      obtain ⟨v, l, e, s⟩ := rep_wins hd
      exact ⟨l, v, e, s⟩
    obtain ⟨l, l1, l2⟩ := choose_list (R := fun (x : List CV) (L : LinkD) => LinkR h x L) (xs := ls) fun x hx => by
      obtain ⟨d, hd⟩ := hl x hx
      exact rep_link hd
    exact ⟨hz, vc, vl, cl, l, rfl, ⟨cs, sc, c1.symm, c2⟩, ⟨ls, sl, l1.symm, l2⟩⟩
end
end Go.Proofs.Ytdcegklfbhfddaa
