/- ExpandLater on the plain machine: the kernel runs it. No condition. -/
import Derived.Test.YtklolghdoimgcaaGreatDoorXLg
import Derived.Test.YtklolghdoimgcaaGreatDoorXLb
import Derived.Test.YtklolghdoimgcaaGreatDoorProg
import Derived.KernelRfl
namespace Go.Proofs.YtklolghdoimgcaaGreatDoor
set_option linter.unusedVariables false
set_option linter.unusedSimpArgs false
open Go
noncomputable section
set_option maxRecDepth 1000000
def cmps : List Nat := []
def fnl : List Nat := [4, 6, 7, 8, 9, 11, 12, 13, 14, 15, 16, 17, 18, 19, 20, 21, 22, 23, 24, 25, 26, 27, 28, 29, 30, 31, 32, 33, 35, 37, 38, 39, 40, 41, 42, 44, 45, 46, 47, 48, 49, 50, 51, 52, 53, 54, 55, 56, 57, 58, 59, 60, 61, 62, 63, 64, 65, 66, 67, 68, 70, 72, 73, 74, 75, 76, 78, 79, 80, 82, 84, 85, 86, 87, 88, 89, 91, 92, 93, 94, 97, 98, 100, 101, 102, 103, 104, 105, 107, 108, 111, 112, 113, 115]
def env (kn : List CM.KE) : CM.Env := CM.envOf Tryz.prog 238 cmps 150 fnl 1 kn rows
theorem fns_good : CM.fnsGood Tryz.prog fnl = true := by kernel_rfl
theorem mixed : Tryz.prog.follows .mixedOrders = true := by kernel_rfl
theorem rows_good : CM.rowsGood 1 rows = true := by kernel_rfl
theorem envW {kn : List CM.KE} (h : ∀ e ∈ kn, CM.KnownOk Tryz.prog 1 rows e) : CM.EnvW Tryz.prog (env kn) := CM.envW_of fns_good mixed rows_good h
theorem none_known : ∀ e ∈ ([] : List CM.KE), CM.KnownOk Tryz.prog 1 rows e := fun _ h => by cases h
theorem more {l : List CM.KE} {e : CM.KE} (h : ∀ e ∈ l, CM.KnownOk Tryz.prog 1 rows e) (k : CM.KnownOk Tryz.prog 1 rows e) : ∀ x ∈ l ++ [e], CM.KnownOk Tryz.prog 1 rows x := by
  intro x hx
  rcases List.mem_append.1 hx with hx | hx
  · exact h x hx
  · rw [List.mem_singleton] at hx
    rw [hx]; exact k
def e0 : CM.KE := ⟨62, [.str [97]], [], .bool true⟩
theorem k0 : CM.KnownOk Tryz.prog 1 rows e0 := CM.known_of (m := 1000000) (envW none_known) (by kernel_rfl) rfl
def kn0 : List CM.KE := [] ++ [e0]
theorem ok0 : ∀ e ∈ kn0, CM.KnownOk Tryz.prog 1 rows e := more none_known k0
def e1 : CM.KE := ⟨62, [.str [98]], [], .bool true⟩
theorem k1 : CM.KnownOk Tryz.prog 1 rows e1 := CM.known_of (m := 1000000) (envW ok0) (by kernel_rfl) rfl
def kn1 : List CM.KE := kn0 ++ [e1]
theorem ok1 : ∀ e ∈ kn1, CM.KnownOk Tryz.prog 1 rows e := more ok0 k1
def e2 : CM.KE := ⟨62, [.str [99]], [], .bool true⟩
theorem k2 : CM.KnownOk Tryz.prog 1 rows e2 := CM.known_of (m := 1000000) (envW ok1) (by kernel_rfl) rfl
def kn2 : List CM.KE := kn1 ++ [e2]
theorem ok2 : ∀ e ∈ kn2, CM.KnownOk Tryz.prog 1 rows e := more ok1 k2
def e3 : CM.KE := ⟨62, [.str [114]], [], .bool true⟩
theorem k3 : CM.KnownOk Tryz.prog 1 rows e3 := CM.known_of (m := 1000000) (envW ok2) (by kernel_rfl) rfl
def kn3 : List CM.KE := kn2 ++ [e3]
theorem ok3 : ∀ e ∈ kn3, CM.KnownOk Tryz.prog 1 rows e := more ok2 k3
def e4 : CM.KE := ⟨62, [.str [116]], [], .bool true⟩
theorem k4 : CM.KnownOk Tryz.prog 1 rows e4 := CM.known_of (m := 1000000) (envW ok3) (by kernel_rfl) rfl
def kn4 : List CM.KE := kn3 ++ [e4]
theorem ok4 : ∀ e ∈ kn4, CM.KnownOk Tryz.prog 1 rows e := more ok3 k4
def e5 : CM.KE := ⟨24, [.agg [.int .i64 30, .slice (some (1, 0)) 3 3 0, .slice none 0 0 0, .slice none 0 0 0, .slice (some (2, 0)) 1 1 0, .slice (some (3, 0)) 1 1 0, .slice none 0 0 0, .slice none 0 0 0, .slice none 0 0 0, .slice (some (4, 0)) 1 1 0, .slice (some (5, 0)) 1 1 0, .slice none 0 0 0]], [[.str [97], .str [98], .str [99]], [.str [114]], [.str [116]], [.slice (some (6, 0)) 3 3 0, .slice (some (7, 0)) 2 2 0, .slice (some (8, 0)) 1 1 0], [.int .i64 0, .int .i64 1, .int .i64 10, .int .i64 40], [.int .i64 0, .int .i64 1, .int .i64 2], [.int .i64 5, .int .i64 3], [.int .i64 2]], .bool true⟩
theorem k5 : CM.KnownOk Tryz.prog 1 rows e5 := CM.known_of (m := 1000000) (envW ok4) (by kernel_rfl) rfl
def kn5 : List CM.KE := kn4 ++ [e5]
theorem ok5 : ∀ e ∈ kn5, CM.KnownOk Tryz.prog 1 rows e := more ok4 k5
def e6 : CM.KE := ⟨44, [.agg [.int .i64 30, .slice (some (1, 0)) 3 3 1, .slice none 0 0 0, .slice none 0 0 0, .slice (some (2, 0)) 1 1 4, .slice (some (3, 0)) 1 1 5, .slice none 0 0 0]], [[.str [97], .str [98], .str [99]], [.str [114], .slice (some (4, 0)) 3 3 1, .slice (some (5, 0)) 2 2 1, .slice (some (6, 0)) 1 1 1], [.str [116], .str [114], .int .i64 1, .int .i64 10, .int .i64 40], [.str [97], .str [98], .str [99]], [.int .i64 5, .int .i64 3], [.int .i64 2]], .int .i64 0⟩
theorem k6 : CM.KnownOk Tryz.prog 1 rows e6 := CM.known_of (m := 1000000) (envW ok5) (by kernel_rfl) rfl
def kn6 : List CM.KE := kn5 ++ [e6]
theorem ok6 : ∀ e ∈ kn6, CM.KnownOk Tryz.prog 1 rows e := more ok5 k6
def e7 : CM.KE := ⟨46, [.ptr (some (1, 0))], [[.int .i64 30, .slice (some (2, 0)) 3 3 1, .slice none 0 0 0, .slice none 0 0 0, .slice (some (3, 0)) 1 1 1, .slice (some (4, 0)) 1 1 1, .slice none 0 0 0, .slice none 0 0 0, .slice none 0 0 0, .slice (some (5, 0)) 1 1 3, .slice (some (6, 0)) 1 1 4, .slice none 0 0 0], [.str [97], .str [98], .str [99]], [.str [114]], [.str [116]], [.slice (some (7, 0)) 3 3 1, .slice (some (8, 0)) 2 2 1, .slice (some (9, 0)) 1 1 1], [.int .i64 0, .int .i64 1, .int .i64 10, .int .i64 40], [.int .i64 0, .int .i64 1, .int .i64 2], [.int .i64 5, .int .i64 3], [.int .i64 2]], .agg [.int .i64 0, .int .i64 0, .int .i64 0]⟩
theorem k7 : CM.KnownOk Tryz.prog 1 rows e7 := CM.known_of (m := 1000000) (envW ok6) (by kernel_rfl) rfl
def kn7 : List CM.KE := kn6 ++ [e7]
theorem ok7 : ∀ e ∈ kn7, CM.KnownOk Tryz.prog 1 rows e := more ok6 k7
def e8 : CM.KE := ⟨18, [.agg [.int .i64 30, .slice (some (1, 0)) 3 3 0, .slice none 0 0 0, .slice none 0 0 0, .slice (some (2, 0)) 1 1 0, .slice (some (3, 0)) 1 1 0, .slice none 0 0 0, .slice none 0 0 0, .slice none 0 0 0, .slice (some (4, 0)) 1 1 0, .slice (some (5, 0)) 1 1 0, .slice none 0 0 0]], [[.str [97], .str [98], .str [99]], [.str [114]], [.str [116]], [.slice (some (6, 0)) 3 3 0, .slice (some (7, 0)) 2 2 0, .slice (some (8, 0)) 1 1 0], [.int .i64 0, .int .i64 1, .int .i64 10, .int .i64 40], [.int .i64 0, .int .i64 1, .int .i64 2], [.int .i64 5, .int .i64 3], [.int .i64 2]], .agg [.int .i64 0, .int .i64 0, .int .i64 0]⟩
theorem k8 : CM.KnownOk Tryz.prog 1 rows e8 := CM.known_of (m := 1000000) (envW ok7) (by kernel_rfl) rfl
def kn8 : List CM.KE := kn7 ++ [e8]
theorem ok8 : ∀ e ∈ kn8, CM.KnownOk Tryz.prog 1 rows e := more ok7 k8
def e9 : CM.KE := ⟨20, [.int .i64 1, .int .i64 10, .int .i64 1], [], .tup [.int .i64 11, .int .i64 0]⟩
theorem k9 : CM.KnownOk Tryz.prog 1 rows e9 := CM.known_of (m := 1000000) (envW ok8) (by kernel_rfl) rfl
def kn9 : List CM.KE := kn8 ++ [e9]
theorem ok9 : ∀ e ∈ kn9, CM.KnownOk Tryz.prog 1 rows e := more ok8 k9
theorem lives_known : CM.KnownOk Tryz.prog 1 rows livesE := CM.known_of (m := 1000000) (envW ok9) (by kernel_rfl) rfl
theorem tys_good : ∀ p ∈ tyL, CM.tyOf Tryz.prog p.1 false = some p.2 := by
  intro p hp
  simp only [tyL, List.mem_cons, List.not_mem_nil, or_false] at hp
  rcases hp with rfl | rfl | rfl | rfl | rfl | rfl <;> kernel_rfl
theorem fns_small : ∀ p ∈ fnL, ∃ fn, Tryz.prog.funcs[p.1]? = some fn ∧ p.2 = CM.fnOf fn ∧ CM.fnGood fn = true := by
  intro p hp
  simp only [fnL, List.mem_cons, List.not_mem_nil, or_false] at hp
  rcases hp with rfl | rfl | rfl | rfl | rfl | rfl | rfl
  · exact ⟨Tryz.f3, Tryz.func3, rfl, by kernel_rfl⟩
  · exact ⟨Tryz.f5, Tryz.func5, rfl, by kernel_rfl⟩
  · exact ⟨Tryz.f6, Tryz.func6, rfl, by kernel_rfl⟩
  · exact ⟨Tryz.f10, Tryz.func10, rfl, by kernel_rfl⟩
  · exact ⟨Tryz.f11, Tryz.func11, rfl, by kernel_rfl⟩
  · exact ⟨Tryz.f12, Tryz.func12, rfl, by kernel_rfl⟩
  · exact ⟨Tryz.f13, Tryz.func13, rfl, by kernel_rfl⟩
theorem envW1 : CM.EnvW Tryz.prog E1 := CM.envW_small tys_good fns_small mixed rows_good (fun e he => by
  rw [List.mem_singleton] at he
  rw [he]; exact lives_known)
end
end Go.Proofs.YtklolghdoimgcaaGreatDoor
