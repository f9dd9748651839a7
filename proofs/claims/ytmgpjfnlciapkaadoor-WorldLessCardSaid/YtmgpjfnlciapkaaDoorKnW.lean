/- What the law asks first is known: the kernel runs it on the plain machine; the small environment. No condition. -/
import Derived.Test.YtmgpjfnlciapkaaDoorCmV
import Derived.Test.YtmgpjfnlciapkaaDoorZF
import Derived.Test.YtmgpjfnlciapkaaDoorYA
import Derived.KernelRfl
namespace Go.Proofs.YtmgpjfnlciapkaaDoor
set_option linter.unusedVariables false
set_option linter.unusedSimpArgs false
open Go
noncomputable section
set_option maxRecDepth 1000000
namespace Kn
def fnl : List Nat := [5, 7, 14, 16, 17, 18, 29, 30, 31, 32, 33, 34, 35, 36, 37, 39, 40, 41, 42, 44, 46, 48, 49, 50, 51, 52, 53, 54, 56, 60, 62, 63, 64, 65, 66, 67, 68, 72, 74, 75, 76, 77, 78, 79, 80, 81, 82, 83, 84, 85, 87, 88, 89, 93, 94, 95, 96, 98]
def env (kn : List CM.KE) : CM.Env := CM.envOf Tryd.prog 218 [43] 126 fnl 1 kn rows
theorem fns_good : CM.fnsGood Tryd.prog fnl = true := by kernel_rfl
theorem mixed : Tryd.prog.follows .mixedOrders = true := by kernel_rfl
theorem rows_good : CM.rowsGood 1 rows = true := by kernel_rfl
theorem envW {kn : List CM.KE} (h : ∀ e ∈ kn, CM.KnownOk Tryd.prog 1 rows e) : CM.EnvW Tryd.prog (env kn) := CM.envW_of fns_good mixed rows_good h
theorem none_known : ∀ e ∈ ([] : List CM.KE), CM.KnownOk Tryd.prog 1 rows e := fun _ h => by cases h
theorem more {l : List CM.KE} {e : CM.KE} (h : ∀ e ∈ l, CM.KnownOk Tryd.prog 1 rows e) (k : CM.KnownOk Tryd.prog 1 rows e) : ∀ x ∈ l ++ [e], CM.KnownOk Tryd.prog 1 rows x := by
  intro x hx
  rcases List.mem_append.1 hx with hx | hx
  · exact h x hx
  · rw [List.mem_singleton] at hx
    rw [hx]; exact k
def e0 : CM.KE := ⟨32, [.str [97]], [], .bool true, []⟩
theorem k0 : CM.KnownOk Tryd.prog 1 rows e0 := CM.known_of (m := 1000000) (envW none_known) (by kernel_rfl)
def kn0 : List CM.KE := [] ++ [e0]
theorem ok0 : ∀ e ∈ kn0, CM.KnownOk Tryd.prog 1 rows e := more none_known k0
def e1 : CM.KE := ⟨32, [.str [98]], [], .bool true, []⟩
theorem k1 : CM.KnownOk Tryd.prog 1 rows e1 := CM.known_of (m := 1000000) (envW ok0) (by kernel_rfl)
def kn1 : List CM.KE := kn0 ++ [e1]
theorem ok1 : ∀ e ∈ kn1, CM.KnownOk Tryd.prog 1 rows e := more ok0 k1
def e2 : CM.KE := ⟨32, [.str [112]], [], .bool true, []⟩
theorem k2 : CM.KnownOk Tryd.prog 1 rows e2 := CM.known_of (m := 1000000) (envW ok1) (by kernel_rfl)
def kn2 : List CM.KE := kn1 ++ [e2]
theorem ok2 : ∀ e ∈ kn2, CM.KnownOk Tryd.prog 1 rows e := more ok1 k2
def e3 : CM.KE := ⟨32, [.str [104]], [], .bool true, []⟩
theorem k3 : CM.KnownOk Tryd.prog 1 rows e3 := CM.known_of (m := 1000000) (envW ok2) (by kernel_rfl)
def kn3 : List CM.KE := kn2 ++ [e3]
theorem ok3 : ∀ e ∈ kn3, CM.KnownOk Tryd.prog 1 rows e := more ok2 k3
def e4 : CM.KE := ⟨32, [.str [110, 111, 98, 111, 100, 121]], [], .bool true, []⟩
theorem k4 : CM.KnownOk Tryd.prog 1 rows e4 := CM.known_of (m := 1000000) (envW ok3) (by kernel_rfl)
def kn4 : List CM.KE := kn3 ++ [e4]
theorem ok4 : ∀ e ∈ kn4, CM.KnownOk Tryd.prog 1 rows e := more ok3 k4
theorem lives_known : CM.KnownOk Tryd.prog 1 rows livesE := CM.known_of (m := 1000000) (envW ok4) (by kernel_rfl)
theorem fields_known : CM.KnownOk Tryd.prog 1 rows fieldsE := CM.known_of (m := 1000000) (envW none_known) (by kernel_rfl)
theorem tys_good : ∀ p ∈ tyL, CM.tyOf Tryd.prog p.1 p.2.cmp = some p.2 ∧ (p.2.cmp = true → CM.cmpB Tryd.prog p.1 = true) := by
  intro p hp
  simp only [tyL, List.mem_cons, List.not_mem_nil, or_false] at hp
  rcases hp with rfl | rfl | rfl | rfl | rfl | rfl | rfl | rfl | rfl | rfl | rfl | rfl | rfl | rfl | rfl | rfl | rfl | rfl | rfl | rfl | rfl | rfl | rfl | rfl | rfl | rfl | rfl | rfl | rfl | rfl | rfl | rfl | rfl | rfl | rfl | rfl | rfl | rfl | rfl | rfl | rfl | rfl | rfl | rfl | rfl | rfl | rfl | rfl | rfl | rfl | rfl | rfl | rfl | rfl | rfl | rfl | rfl | rfl | rfl | rfl | rfl | rfl | rfl | rfl | rfl | rfl
  · exact ⟨by kernel_rfl, fun h => by cases h⟩
  · exact ⟨by kernel_rfl, fun h => by cases h⟩
  · exact ⟨by kernel_rfl, fun h => by cases h⟩
  · exact ⟨by kernel_rfl, fun h => by cases h⟩
  · exact ⟨by kernel_rfl, fun h => by cases h⟩
  · exact ⟨by kernel_rfl, fun h => by cases h⟩
  · exact ⟨by kernel_rfl, fun h => by cases h⟩
  · exact ⟨by kernel_rfl, fun h => by cases h⟩
  · exact ⟨by kernel_rfl, fun h => by cases h⟩
  · exact ⟨by kernel_rfl, fun h => by cases h⟩
  · exact ⟨by kernel_rfl, fun h => by cases h⟩
  · exact ⟨by kernel_rfl, fun h => by cases h⟩
  · exact ⟨by kernel_rfl, fun h => by cases h⟩
  · exact ⟨by kernel_rfl, fun h => by cases h⟩
  · exact ⟨by kernel_rfl, fun h => by cases h⟩
  · exact ⟨by kernel_rfl, fun h => by cases h⟩
  · exact ⟨by kernel_rfl, fun h => by cases h⟩
  · exact ⟨by kernel_rfl, fun h => by cases h⟩
  · exact ⟨by kernel_rfl, fun h => by cases h⟩
  · exact ⟨by kernel_rfl, fun h => by cases h⟩
  · exact ⟨by kernel_rfl, fun h => by cases h⟩
  · exact ⟨by kernel_rfl, fun h => by cases h⟩
  · exact ⟨by kernel_rfl, fun h => by cases h⟩
  · exact ⟨by kernel_rfl, fun h => by cases h⟩
  · exact ⟨by kernel_rfl, fun h => by cases h⟩
  · exact ⟨by kernel_rfl, fun h => by cases h⟩
  · exact ⟨by kernel_rfl, fun h => by cases h⟩
  · exact ⟨by kernel_rfl, fun h => by cases h⟩
  · exact ⟨by kernel_rfl, fun h => by cases h⟩
  · exact ⟨by kernel_rfl, fun h => by cases h⟩
  · exact ⟨by kernel_rfl, fun h => by cases h⟩
  · exact ⟨by kernel_rfl, fun h => by kernel_rfl⟩
  · exact ⟨by kernel_rfl, fun h => by cases h⟩
  · exact ⟨by kernel_rfl, fun h => by cases h⟩
  · exact ⟨by kernel_rfl, fun h => by cases h⟩
  · exact ⟨by kernel_rfl, fun h => by cases h⟩
  · exact ⟨by kernel_rfl, fun h => by cases h⟩
  · exact ⟨by kernel_rfl, fun h => by cases h⟩
  · exact ⟨by kernel_rfl, fun h => by cases h⟩
  · exact ⟨by kernel_rfl, fun h => by cases h⟩
  · exact ⟨by kernel_rfl, fun h => by cases h⟩
  · exact ⟨by kernel_rfl, fun h => by cases h⟩
  · exact ⟨by kernel_rfl, fun h => by cases h⟩
  · exact ⟨by kernel_rfl, fun h => by cases h⟩
  · exact ⟨by kernel_rfl, fun h => by cases h⟩
  · exact ⟨by kernel_rfl, fun h => by cases h⟩
  · exact ⟨by kernel_rfl, fun h => by cases h⟩
  · exact ⟨by kernel_rfl, fun h => by cases h⟩
  · exact ⟨by kernel_rfl, fun h => by cases h⟩
  · exact ⟨by kernel_rfl, fun h => by cases h⟩
  · exact ⟨by kernel_rfl, fun h => by cases h⟩
  · exact ⟨by kernel_rfl, fun h => by cases h⟩
  · exact ⟨by kernel_rfl, fun h => by cases h⟩
  · exact ⟨by kernel_rfl, fun h => by cases h⟩
  · exact ⟨by kernel_rfl, fun h => by cases h⟩
  · exact ⟨by kernel_rfl, fun h => by cases h⟩
  · exact ⟨by kernel_rfl, fun h => by cases h⟩
  · exact ⟨by kernel_rfl, fun h => by cases h⟩
  · exact ⟨by kernel_rfl, fun h => by cases h⟩
  · exact ⟨by kernel_rfl, fun h => by cases h⟩
  · exact ⟨by kernel_rfl, fun h => by cases h⟩
  · exact ⟨by kernel_rfl, fun h => by cases h⟩
  · exact ⟨by kernel_rfl, fun h => by cases h⟩
  · exact ⟨by kernel_rfl, fun h => by cases h⟩
  · exact ⟨by kernel_rfl, fun h => by cases h⟩
  · exact ⟨by kernel_rfl, fun h => by cases h⟩
theorem fns_small : ∀ p ∈ fnL, ∃ fn, Tryd.prog.funcs[p.1]? = some fn ∧ p.2 = CM.fnOf fn ∧ CM.fnGood fn = true := by
  intro p hp
  simp only [fnL, List.mem_cons, List.not_mem_nil, or_false] at hp
  rcases hp with rfl | rfl | rfl | rfl | rfl | rfl | rfl | rfl | rfl | rfl | rfl | rfl | rfl | rfl | rfl | rfl | rfl | rfl | rfl | rfl | rfl | rfl | rfl | rfl | rfl | rfl | rfl | rfl | rfl | rfl | rfl | rfl | rfl | rfl | rfl | rfl | rfl | rfl | rfl | rfl | rfl | rfl | rfl | rfl | rfl | rfl | rfl | rfl | rfl | rfl | rfl | rfl | rfl | rfl | rfl | rfl | rfl | rfl | rfl | rfl | rfl | rfl | rfl | rfl | rfl | rfl | rfl | rfl | rfl | rfl | rfl | rfl | rfl | rfl | rfl | rfl | rfl | rfl | rfl | rfl | rfl | rfl | rfl | rfl | rfl | rfl | rfl | rfl | rfl | rfl | rfl
  · exact ⟨Tryd.f3, Tryd.func3, rfl, by kernel_rfl⟩
  · exact ⟨Tryd.f4, Tryd.func4, rfl, by kernel_rfl⟩
  · exact ⟨Tryd.f6, Tryd.func6, rfl, by kernel_rfl⟩
  · exact ⟨Tryd.f7, Tryd.func7, rfl, by kernel_rfl⟩
  · exact ⟨Tryd.f8, Tryd.func8, rfl, by kernel_rfl⟩
  · exact ⟨Tryd.f9, Tryd.func9, rfl, by kernel_rfl⟩
  · exact ⟨Tryd.f10, Tryd.func10, rfl, by kernel_rfl⟩
  · exact ⟨Tryd.f11, Tryd.func11, rfl, by kernel_rfl⟩
  · exact ⟨Tryd.f12, Tryd.func12, rfl, by kernel_rfl⟩
  · exact ⟨Tryd.f13, Tryd.func13, rfl, by kernel_rfl⟩
  · exact ⟨Tryd.f15, Tryd.func15, rfl, by kernel_rfl⟩
  · exact ⟨Tryd.f16, Tryd.func16, rfl, by kernel_rfl⟩
  · exact ⟨Tryd.f17, Tryd.func17, rfl, by kernel_rfl⟩
  · exact ⟨Tryd.f18, Tryd.func18, rfl, by kernel_rfl⟩
  · exact ⟨Tryd.f19, Tryd.func19, rfl, by kernel_rfl⟩
  · exact ⟨Tryd.f20, Tryd.func20, rfl, by kernel_rfl⟩
  · exact ⟨Tryd.f21, Tryd.func21, rfl, by kernel_rfl⟩
  · exact ⟨Tryd.f22, Tryd.func22, rfl, by kernel_rfl⟩
  · exact ⟨Tryd.f23, Tryd.func23, rfl, by kernel_rfl⟩
  · exact ⟨Tryd.f24, Tryd.func24, rfl, by kernel_rfl⟩
  · exact ⟨Tryd.f25, Tryd.func25, rfl, by kernel_rfl⟩
  · exact ⟨Tryd.f26, Tryd.func26, rfl, by kernel_rfl⟩
  · exact ⟨Tryd.f27, Tryd.func27, rfl, by kernel_rfl⟩
  · exact ⟨Tryd.f28, Tryd.func28, rfl, by kernel_rfl⟩
  · exact ⟨Tryd.f29, Tryd.func29, rfl, by kernel_rfl⟩
  · exact ⟨Tryd.f30, Tryd.func30, rfl, by kernel_rfl⟩
  · exact ⟨Tryd.f31, Tryd.func31, rfl, by kernel_rfl⟩
  · exact ⟨Tryd.f32, Tryd.func32, rfl, by kernel_rfl⟩
  · exact ⟨Tryd.f33, Tryd.func33, rfl, by kernel_rfl⟩
  · exact ⟨Tryd.f34, Tryd.func34, rfl, by kernel_rfl⟩
  · exact ⟨Tryd.f35, Tryd.func35, rfl, by kernel_rfl⟩
  · exact ⟨Tryd.f36, Tryd.func36, rfl, by kernel_rfl⟩
  · exact ⟨Tryd.f37, Tryd.func37, rfl, by kernel_rfl⟩
  · exact ⟨Tryd.f38, Tryd.func38, rfl, by kernel_rfl⟩
  · exact ⟨Tryd.f39, Tryd.func39, rfl, by kernel_rfl⟩
  · exact ⟨Tryd.f40, Tryd.func40, rfl, by kernel_rfl⟩
  · exact ⟨Tryd.f41, Tryd.func41, rfl, by kernel_rfl⟩
  · exact ⟨Tryd.f42, Tryd.func42, rfl, by kernel_rfl⟩
  · exact ⟨Tryd.f43, Tryd.func43, rfl, by kernel_rfl⟩
  · exact ⟨Tryd.f44, Tryd.func44, rfl, by kernel_rfl⟩
  · exact ⟨Tryd.f45, Tryd.func45, rfl, by kernel_rfl⟩
  · exact ⟨Tryd.f46, Tryd.func46, rfl, by kernel_rfl⟩
  · exact ⟨Tryd.f47, Tryd.func47, rfl, by kernel_rfl⟩
  · exact ⟨Tryd.f48, Tryd.func48, rfl, by kernel_rfl⟩
  · exact ⟨Tryd.f49, Tryd.func49, rfl, by kernel_rfl⟩
  · exact ⟨Tryd.f50, Tryd.func50, rfl, by kernel_rfl⟩
  · exact ⟨Tryd.f51, Tryd.func51, rfl, by kernel_rfl⟩
  · exact ⟨Tryd.f52, Tryd.func52, rfl, by kernel_rfl⟩
  · exact ⟨Tryd.f53, Tryd.func53, rfl, by kernel_rfl⟩
  · exact ⟨Tryd.f54, Tryd.func54, rfl, by kernel_rfl⟩
  · exact ⟨Tryd.f55, Tryd.func55, rfl, by kernel_rfl⟩
  · exact ⟨Tryd.f56, Tryd.func56, rfl, by kernel_rfl⟩
  · exact ⟨Tryd.f57, Tryd.func57, rfl, by kernel_rfl⟩
  · exact ⟨Tryd.f58, Tryd.func58, rfl, by kernel_rfl⟩
  · exact ⟨Tryd.f59, Tryd.func59, rfl, by kernel_rfl⟩
  · exact ⟨Tryd.f60, Tryd.func60, rfl, by kernel_rfl⟩
  · exact ⟨Tryd.f61, Tryd.func61, rfl, by kernel_rfl⟩
  · exact ⟨Tryd.f62, Tryd.func62, rfl, by kernel_rfl⟩
  · exact ⟨Tryd.f63, Tryd.func63, rfl, by kernel_rfl⟩
  · exact ⟨Tryd.f64, Tryd.func64, rfl, by kernel_rfl⟩
  · exact ⟨Tryd.f65, Tryd.func65, rfl, by kernel_rfl⟩
  · exact ⟨Tryd.f66, Tryd.func66, rfl, by kernel_rfl⟩
  · exact ⟨Tryd.f67, Tryd.func67, rfl, by kernel_rfl⟩
  · exact ⟨Tryd.f68, Tryd.func68, rfl, by kernel_rfl⟩
  · exact ⟨Tryd.f69, Tryd.func69, rfl, by kernel_rfl⟩
  · exact ⟨Tryd.f70, Tryd.func70, rfl, by kernel_rfl⟩
  · exact ⟨Tryd.f71, Tryd.func71, rfl, by kernel_rfl⟩
  · exact ⟨Tryd.f72, Tryd.func72, rfl, by kernel_rfl⟩
  · exact ⟨Tryd.f73, Tryd.func73, rfl, by kernel_rfl⟩
  · exact ⟨Tryd.f74, Tryd.func74, rfl, by kernel_rfl⟩
  · exact ⟨Tryd.f75, Tryd.func75, rfl, by kernel_rfl⟩
  · exact ⟨Tryd.f76, Tryd.func76, rfl, by kernel_rfl⟩
  · exact ⟨Tryd.f77, Tryd.func77, rfl, by kernel_rfl⟩
  · exact ⟨Tryd.f78, Tryd.func78, rfl, by kernel_rfl⟩
  · exact ⟨Tryd.f79, Tryd.func79, rfl, by kernel_rfl⟩
  · exact ⟨Tryd.f80, Tryd.func80, rfl, by kernel_rfl⟩
  · exact ⟨Tryd.f81, Tryd.func81, rfl, by kernel_rfl⟩
  · exact ⟨Tryd.f82, Tryd.func82, rfl, by kernel_rfl⟩
  · exact ⟨Tryd.f83, Tryd.func83, rfl, by kernel_rfl⟩
  · exact ⟨Tryd.f84, Tryd.func84, rfl, by kernel_rfl⟩
  · exact ⟨Tryd.f85, Tryd.func85, rfl, by kernel_rfl⟩
  · exact ⟨Tryd.f86, Tryd.func86, rfl, by kernel_rfl⟩
  · exact ⟨Tryd.f87, Tryd.func87, rfl, by kernel_rfl⟩
  · exact ⟨Tryd.f89, Tryd.func89, rfl, by kernel_rfl⟩
  · exact ⟨Tryd.f90, Tryd.func90, rfl, by kernel_rfl⟩
  · exact ⟨Tryd.f93, Tryd.func93, rfl, by kernel_rfl⟩
  · exact ⟨Tryd.f94, Tryd.func94, rfl, by kernel_rfl⟩
  · exact ⟨Tryd.f95, Tryd.func95, rfl, by kernel_rfl⟩
  · exact ⟨Tryd.f96, Tryd.func96, rfl, by kernel_rfl⟩
  · exact ⟨Tryd.f98, Tryd.func98, rfl, by kernel_rfl⟩
  · exact ⟨Tryd.f116, Tryd.func116, rfl, by kernel_rfl⟩
end Kn
theorem envW1 : CM.EnvW Tryd.prog E1 := CM.envW_small2 Kn.tys_good Kn.fns_small Kn.mixed Kn.rows_good (fun e he => by
  simp only [known, List.mem_cons, List.not_mem_nil, or_false] at he
  rcases he with rfl | rfl
  · exact Kn.lives_known
  · exact Kn.fields_known)
end
end Go.Proofs.YtmgpjfnlciapkaaDoor
