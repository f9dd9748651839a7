/- WorldNames on the plain machine: the kernel runs it. No condition. -/
import Derived.Test.YtijaeniadggfeaaGreatDoorCmX
import Derived.Test.YtijaeniadggfeaaGreatDoorProg
import Derived.KernelRfl
namespace Go.Proofs.YtijaeniadggfeaaGreatDoor
set_option linter.unusedVariables false
set_option linter.unusedSimpArgs false
open Go
noncomputable section
set_option maxRecDepth 1000000
def ascii : List Int := [0, 0, 0, 0, 0, 0, 0, 0, 0, 1, 1, 1, 1, 1, 0, 0, 0, 0, 0, 0, 0, 0, 0, 0, 0, 0, 0, 0, 0, 0, 0, 0, 1] ++ List.replicate 223 0
def rows : List (Nat × List CM.CV) := [(0, ascii.map (CM.CV.int .u8))]
def cmps : List Nat := [35, 59, 61, 53]
def fnl : List Nat := [3, 4, 5, 6, 7, 8, 9, 10, 11, 12, 13, 14, 15, 16, 17, 18, 19, 20, 21, 23, 24, 25, 26, 27, 28, 29, 30, 31, 32, 34, 35, 36, 37, 38, 39, 41, 43, 44, 45, 46, 47, 48, 49, 50, 54, 56, 57, 58, 59, 60, 61, 62, 65, 68, 70, 71, 72, 73, 74, 76, 79, 81, 82, 83, 84, 85, 86, 87, 88, 89, 90, 91, 92, 93, 95, 96, 97, 99, 100, 101, 102, 103, 107, 108, 109, 110, 112]
def env (kn : List (Nat × (List CM.CV × CM.CV))) : CM.Env := CM.envOf Tryz.prog 229 cmps 115 fnl 1 kn rows
theorem fns_good : CM.fnsGood Tryz.prog fnl = true := by kernel_rfl
theorem mixed : Tryz.prog.follows .mixedOrders = true := by kernel_rfl
theorem rows_good : CM.rowsGood 1 rows = true := by kernel_rfl
theorem envW {kn : List (Nat × (List CM.CV × CM.CV))} (h : ∀ e ∈ kn, CM.KnownOk Tryz.prog 1 rows e) : CM.EnvW Tryz.prog (env kn) := CM.envW_of fns_good mixed rows_good h
theorem none_known : ∀ e ∈ ([] : List (Nat × (List CM.CV × CM.CV))), CM.KnownOk Tryz.prog 1 rows e := fun _ h => by cases h
def name (s : List UInt8) : Nat × (List CM.CV × CM.CV) := (27, ([.str s], .bool true))
theorem k_a : CM.KnownOk Tryz.prog 1 rows (name [97]) := CM.known_of (m := 1000000) (envW none_known) (by kernel_rfl) rfl rfl
theorem k_b : CM.KnownOk Tryz.prog 1 rows (name [98]) := CM.known_of (m := 1000000) (envW none_known) (by kernel_rfl) rfl rfl
theorem k_p : CM.KnownOk Tryz.prog 1 rows (name [112]) := CM.known_of (m := 1000000) (envW none_known) (by kernel_rfl) rfl rfl
theorem k_h : CM.KnownOk Tryz.prog 1 rows (name [104]) := CM.known_of (m := 1000000) (envW none_known) (by kernel_rfl) rfl rfl
theorem k_q : CM.KnownOk Tryz.prog 1 rows (name [113]) := CM.known_of (m := 1000000) (envW none_known) (by kernel_rfl) rfl rfl
theorem k_n : CM.KnownOk Tryz.prog 1 rows (name [110, 111, 98, 111, 100, 121]) := CM.known_of (m := 1000000) (envW none_known) (by kernel_rfl) rfl rfl
def kn1 : List (Nat × (List CM.CV × CM.CV)) := [name [97], name [98], name [112], name [104], name [113], name [110, 111, 98, 111, 100, 121]]
theorem kn1_ok : ∀ e ∈ kn1, CM.KnownOk Tryz.prog 1 rows e := by
  intro e he
  simp only [kn1, List.mem_cons, List.not_mem_nil, or_false] at he
  rcases he with rfl | rfl | rfl | rfl | rfl | rfl
  · exact k_a
  · exact k_b
  · exact k_p
  · exact k_h
  · exact k_q
  · exact k_n
theorem runs : (CM.run (env kn1) 1000000 (.call (.fn 3 [] []) []) .leaf (CM.memOf 1 rows)).isTrue = true := by kernel_rfl
end
end Go.Proofs.YtijaeniadggfeaaGreatDoor
