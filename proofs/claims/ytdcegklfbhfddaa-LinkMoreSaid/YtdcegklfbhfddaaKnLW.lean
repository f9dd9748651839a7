/- What the law asks first is known: the kernel runs it on the plain machine; the small environment. No condition. -/
import Derived.Test.YtdcegklfbhfddaaCmX
import Derived.Test.YtdcegklfbhfddaaXLg
import Derived.Test.YtdcegklfbhfddaaXNc
import Derived.Test.YtdcegklfbhfddaaProg
import Derived.KernelRfl
namespace Go.Proofs.Ytdcegklfbhfddaa
set_option linter.unusedVariables false
set_option linter.unusedSimpArgs false
open Go
noncomputable section
set_option maxRecDepth 1000000
def fnl : List Nat := [5, 6, 7, 8, 9, 10, 11, 12, 13, 14, 15, 16, 17, 18, 19, 20, 21, 22, 23, 24, 25, 26, 27, 28, 29, 30, 31, 32, 33, 34, 35, 36, 37, 38, 39]
def env : CM.Env := CM.envOf Try.prog 87 [] 56 fnl 0 [] rows
theorem fns_good : CM.fnsGood Try.prog fnl = true := by kernel_rfl
theorem mixed : Try.prog.follows .mixedOrders = true := by kernel_rfl
theorem rows_good : CM.rowsGood 0 rows = true := by kernel_rfl
theorem envW : CM.EnvW Try.prog env := CM.envW_of fns_good mixed rows_good (fun _ h => by cases h)
theorem lives_known : CM.KnownOk Try.prog 0 rows livesE := CM.known_of (m := 1000000) envW (by kernel_rfl)
theorem tys_good : ∀ p ∈ tyL, CM.tyOf Try.prog p.1 false = some p.2 := by
  intro p hp
  simp only [tyL, List.mem_cons, List.not_mem_nil, or_false] at hp
  rcases hp with rfl | rfl | rfl | rfl | rfl | rfl | rfl | rfl | rfl | rfl | rfl | rfl | rfl | rfl | rfl | rfl | rfl | rfl <;> kernel_rfl
theorem fns_small : ∀ p ∈ fnL, ∃ fn, Try.prog.funcs[p.1]? = some fn ∧ p.2 = CM.fnOf fn ∧ CM.fnGood fn = true := by
  intro p hp
  simp only [fnL, List.mem_cons, List.not_mem_nil, or_false] at hp
  rcases hp with rfl | rfl | rfl | rfl | rfl | rfl | rfl | rfl | rfl | rfl | rfl | rfl | rfl | rfl | rfl | rfl | rfl | rfl | rfl | rfl | rfl | rfl | rfl | rfl | rfl | rfl | rfl | rfl | rfl | rfl | rfl | rfl | rfl | rfl | rfl
  · exact ⟨Try.f19, Try.func19, rfl, by kernel_rfl⟩
  · exact ⟨Try.f27, Try.func27, rfl, by kernel_rfl⟩
  · exact ⟨Try.f18, Try.func18, rfl, by kernel_rfl⟩
  · exact ⟨Try.f36, Try.func36, rfl, by kernel_rfl⟩
  · exact ⟨Try.f37, Try.func37, rfl, by kernel_rfl⟩
  · exact ⟨Try.f39, Try.func39, rfl, by kernel_rfl⟩
  · exact ⟨Try.f33, Try.func33, rfl, by kernel_rfl⟩
  · exact ⟨Try.f35, Try.func35, rfl, by kernel_rfl⟩
  · exact ⟨Try.f31, Try.func31, rfl, by kernel_rfl⟩
  · exact ⟨Try.f38, Try.func38, rfl, by kernel_rfl⟩
  · exact ⟨Try.f7, Try.func7, rfl, by kernel_rfl⟩
  · exact ⟨Try.f16, Try.func16, rfl, by kernel_rfl⟩
  · exact ⟨Try.f17, Try.func17, rfl, by kernel_rfl⟩
  · exact ⟨Try.f22, Try.func22, rfl, by kernel_rfl⟩
  · exact ⟨Try.f20, Try.func20, rfl, by kernel_rfl⟩
  · exact ⟨Try.f28, Try.func28, rfl, by kernel_rfl⟩
  · exact ⟨Try.f21, Try.func21, rfl, by kernel_rfl⟩
  · exact ⟨Try.f29, Try.func29, rfl, by kernel_rfl⟩
  · exact ⟨Try.f12, Try.func12, rfl, by kernel_rfl⟩
  · exact ⟨Try.f26, Try.func26, rfl, by kernel_rfl⟩
  · exact ⟨Try.f30, Try.func30, rfl, by kernel_rfl⟩
  · exact ⟨Try.f32, Try.func32, rfl, by kernel_rfl⟩
  · exact ⟨Try.f34, Try.func34, rfl, by kernel_rfl⟩
  · exact ⟨Try.f6, Try.func6, rfl, by kernel_rfl⟩
  · exact ⟨Try.f15, Try.func15, rfl, by kernel_rfl⟩
  · exact ⟨Try.f9, Try.func9, rfl, by kernel_rfl⟩
  · exact ⟨Try.f8, Try.func8, rfl, by kernel_rfl⟩
  · exact ⟨Try.f3, Try.func3, rfl, by kernel_rfl⟩
  · exact ⟨Try.f4, Try.func4, rfl, by kernel_rfl⟩
  · exact ⟨Try.f10, Try.func10, rfl, by kernel_rfl⟩
  · exact ⟨Try.f23, Try.func23, rfl, by kernel_rfl⟩
  · exact ⟨Try.f24, Try.func24, rfl, by kernel_rfl⟩
  · exact ⟨Try.f13, Try.func13, rfl, by kernel_rfl⟩
  · exact ⟨Try.f11, Try.func11, rfl, by kernel_rfl⟩
  · exact ⟨Try.f25, Try.func25, rfl, by kernel_rfl⟩
theorem envW1 : CM.EnvW Try.prog E1 := CM.envW_small tys_good fns_small mixed rows_good (fun e he => by
  rw [List.mem_singleton] at he
  rw [he]; exact lives_known)
end
end Go.Proofs.Ytdcegklfbhfddaa
