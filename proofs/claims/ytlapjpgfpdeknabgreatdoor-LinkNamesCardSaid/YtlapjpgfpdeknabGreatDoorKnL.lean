/- LinkNames on the plain machine: the kernel runs it. No condition. -/
import Derived.Test.YtlapjpgfpdeknabGreatDoorCmX
import Derived.Test.YtlapjpgfpdeknabGreatDoorProg
import Derived.KernelRfl
namespace Go.Proofs.YtlapjpgfpdeknabGreatDoor
set_option linter.unusedVariables false
set_option linter.unusedSimpArgs false
open Go
noncomputable section
set_option maxRecDepth 1000000
def ascii : List Int := [0, 0, 0, 0, 0, 0, 0, 0, 0, 1, 1, 1, 1, 1, 0, 0, 0, 0, 0, 0, 0, 0, 0, 0, 0, 0, 0, 0, 0, 0, 0, 0, 1] ++ List.replicate 223 0
def rows : List (Nat × List CM.CV) := [(0, ascii.map (CM.CV.int .u8))]
def cmps : List Nat := [72, 30]
def fnl : List Nat := [3, 4, 5, 6, 7, 8, 9, 10, 11, 12, 13, 14, 15, 16, 17, 18, 19, 20, 21, 22, 23, 24, 25, 26, 27, 28, 29, 30, 31, 32, 33, 34, 35, 36, 37, 38, 39, 40, 41, 42, 43, 44, 45, 46, 47, 48, 49, 50, 52, 55, 57, 58, 59, 60, 61, 62, 66, 67, 68, 70, 71, 72, 73, 74, 75, 77, 78, 79, 80, 81, 82, 83, 84, 85, 86, 88, 89, 90, 92, 94, 96, 97, 98, 99, 100, 101, 102, 104, 107, 109, 110, 111, 112, 113, 114, 115, 119, 120, 121, 122, 123, 124, 125, 126, 127, 128, 129, 130, 131, 133, 134]
def env (kn : List CM.KE) : CM.Env := CM.envOf Tryz.prog 263 cmps 166 fnl 1 kn rows
theorem fns_good : CM.fnsGood Tryz.prog fnl = true := by kernel_rfl
theorem mixed : Tryz.prog.follows .mixedOrders = true := by kernel_rfl
theorem rows_good : CM.rowsGood 1 rows = true := by kernel_rfl
theorem envW {kn : List CM.KE} (h : ∀ e ∈ kn, CM.KnownOk Tryz.prog 1 rows e) : CM.EnvW Tryz.prog (env kn) := CM.envW_of fns_good mixed rows_good h
theorem none_known : ∀ e ∈ ([] : List CM.KE), CM.KnownOk Tryz.prog 1 rows e := fun _ h => by cases h
theorem more {l : List CM.KE} {e : CM.KE} (h : ∀ e ∈ l, CM.KnownOk Tryz.prog 1 rows e) (k : CM.KnownOk Tryz.prog 1 rows e) : ∀ x ∈ l ++ [e], CM.KnownOk Tryz.prog 1 rows x := by
  intro x hx
  rcases List.mem_append.1 hx with hx | hx
  · exact h x hx
  · rw [List.mem_singleton] at hx
    rw [hx]; exact k
def e0 : CM.KE := ⟨82, [.str [97]], [], .bool true⟩
theorem k0 : CM.KnownOk Tryz.prog 1 rows e0 := CM.known_of (m := 1000000) (envW none_known) (by kernel_rfl) rfl
def kn0 : List CM.KE := [] ++ [e0]
theorem ok0 : ∀ e ∈ kn0, CM.KnownOk Tryz.prog 1 rows e := more none_known k0
def e1 : CM.KE := ⟨82, [.str [98]], [], .bool true⟩
theorem k1 : CM.KnownOk Tryz.prog 1 rows e1 := CM.known_of (m := 1000000) (envW ok0) (by kernel_rfl) rfl
def kn1 : List CM.KE := kn0 ++ [e1]
theorem ok1 : ∀ e ∈ kn1, CM.KnownOk Tryz.prog 1 rows e := more ok0 k1
def e2 : CM.KE := ⟨82, [.str [112]], [], .bool true⟩
theorem k2 : CM.KnownOk Tryz.prog 1 rows e2 := CM.known_of (m := 1000000) (envW ok1) (by kernel_rfl) rfl
def kn2 : List CM.KE := kn1 ++ [e2]
theorem ok2 : ∀ e ∈ kn2, CM.KnownOk Tryz.prog 1 rows e := more ok1 k2
def e3 : CM.KE := ⟨82, [.str [103]], [], .bool true⟩
theorem k3 : CM.KnownOk Tryz.prog 1 rows e3 := CM.known_of (m := 1000000) (envW ok2) (by kernel_rfl) rfl
def kn3 : List CM.KE := kn2 ++ [e3]
theorem ok3 : ∀ e ∈ kn3, CM.KnownOk Tryz.prog 1 rows e := more ok2 k3
def e4 : CM.KE := ⟨82, [.str [104]], [], .bool true⟩
theorem k4 : CM.KnownOk Tryz.prog 1 rows e4 := CM.known_of (m := 1000000) (envW ok3) (by kernel_rfl) rfl
def kn4 : List CM.KE := kn3 ++ [e4]
theorem ok4 : ∀ e ∈ kn4, CM.KnownOk Tryz.prog 1 rows e := more ok3 k4
def e5 : CM.KE := ⟨8, [.agg [.int .i64 40, .slice (some (1, 0)) 2 2 0, .slice (some (2, 0)) 1 1 0]], [[.slice none 0 0 0, .slice none 0 0 0], [.int .i64 0, .int .i64 1, .int .i64 3, .bool true, .int .i64 0, .slice (some (3, 0)) 2 2 0, .slice none 0 0 0], [.int .i64 5, .int .i64 7, .int .i64 15, .int .i64 17]], .int .i64 0⟩
theorem k5 : CM.KnownOk Tryz.prog 1 rows e5 := CM.known_of (m := 1000000) (envW ok4) (by kernel_rfl) rfl
def kn5 : List CM.KE := kn4 ++ [e5]
theorem ok5 : ∀ e ∈ kn5, CM.KnownOk Tryz.prog 1 rows e := more ok4 k5
def e6 : CM.KE := ⟨8, [.agg [.int .i64 30, .slice (some (1, 0)) 2 2 1, .slice (some (2, 0)) 2 2 7]], [[.slice none 0 0 0, .slice (some (3, 0)) 1 1 2], [.int .i64 0, .int .i64 1, .int .i64 4, .bool false, .int .i64 0, .slice none 0 0 0, .slice (some (4, 0)) 1 1 2, .int .i64 1, .int .i64 0, .int .i64 4, .bool false, .int .i64 0, .slice none 0 0 0, .slice (some (5, 0)) 1 1 2], [.int .i64 3, .int .i64 33], [.int .i64 8, .int .i64 10], [.int .i64 8, .int .i64 10]], .int .i64 0⟩
theorem k6 : CM.KnownOk Tryz.prog 1 rows e6 := CM.known_of (m := 1000000) (envW ok5) (by kernel_rfl) rfl
def kn6 : List CM.KE := kn5 ++ [e6]
theorem ok6 : ∀ e ∈ kn6, CM.KnownOk Tryz.prog 1 rows e := more ok5 k6
def e7 : CM.KE := ⟨45, [.slice (some (1, 0)) 2 2 0, .int .i64 16], [[.int .i64 5, .int .i64 7, .int .i64 15, .int .i64 17]], .int .i64 1⟩
theorem k7 : CM.KnownOk Tryz.prog 1 rows e7 := CM.known_of (m := 1000000) (envW ok6) (by kernel_rfl) rfl
def kn7 : List CM.KE := kn6 ++ [e7]
theorem ok7 : ∀ e ∈ kn7, CM.KnownOk Tryz.prog 1 rows e := more ok6 k7
def e8 : CM.KE := ⟨31, [.slice (some (1, 0)) 2 2 0, .int .i64 16], [[.int .i64 5, .int .i64 7, .int .i64 15, .int .i64 17]], .int .i64 16⟩
theorem k8 : CM.KnownOk Tryz.prog 1 rows e8 := CM.known_of (m := 1000000) (envW ok7) (by kernel_rfl) rfl
def kn8 : List CM.KE := kn7 ++ [e8]
theorem ok8 : ∀ e ∈ kn8, CM.KnownOk Tryz.prog 1 rows e := more ok7 k8
theorem runs : (CM.run (env kn8) 1000000 (.call (.fn 3 [] []) []) .leaf (CM.memOf 1 rows)).isTrue = true := by kernel_rfl
end
end Go.Proofs.YtlapjpgfpdeknabGreatDoor
