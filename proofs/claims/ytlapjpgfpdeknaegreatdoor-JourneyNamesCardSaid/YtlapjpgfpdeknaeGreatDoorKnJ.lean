/- JourneyNames on the plain machine: the kernel runs it. No condition. -/
import Derived.Test.YtlapjpgfpdeknaeGreatDoorCmJ
import Derived.Test.YtlapjpgfpdeknaeGreatDoorProg
import Derived.KernelRfl
namespace Go.Proofs.YtlapjpgfpdeknaeGreatDoor
set_option linter.unusedVariables false
set_option linter.unusedSimpArgs false
open Go
noncomputable section
set_option maxRecDepth 1000000
def ascii : List Int := [0, 0, 0, 0, 0, 0, 0, 0, 0, 1, 1, 1, 1, 1, 0, 0, 0, 0, 0, 0, 0, 0, 0, 0, 0, 0, 0, 0, 0, 0, 0, 0, 1] ++ List.replicate 223 0
def rows : List (Nat × List CM.CV) := [(4, ascii.map (CM.CV.int .u8))]
def cmps : List Nat := [49, 51, 40]
def fnl : List Nat := [3, 4, 5, 6, 7, 8, 9, 10, 11, 12, 13, 14, 15, 16, 17, 18, 19, 20, 21, 22, 23, 24, 25, 26, 27, 28, 29, 30, 31, 32, 33, 34, 36, 37, 38, 39, 40, 41, 42, 43, 44, 45, 47, 48, 49, 50, 51, 52, 53, 54, 55, 56, 57, 58, 59, 60, 62, 63, 64, 65, 66, 67, 68, 69, 70, 74, 75, 76, 77, 78, 79, 80, 81, 82, 83, 84, 85, 86, 87, 88, 89, 90, 91, 92, 97, 98, 99, 100, 101, 102, 103, 104, 105, 106, 107, 108, 109, 112, 113, 114, 115, 116, 117, 118, 119, 120, 122, 123, 124, 125, 126, 127, 128, 129, 130, 131, 132, 134, 135, 136, 137, 138, 139, 141, 142, 143, 144, 145, 146, 147, 153, 154, 155, 156, 157, 158, 159, 160, 161, 162, 168, 169, 170, 171, 172, 173, 175, 176, 177, 178, 179, 180, 181, 182, 183, 184, 185, 186, 187, 188, 189, 190, 191, 192, 193, 195, 196, 197, 198, 199, 201, 202, 203, 204, 205, 207, 208, 209, 210, 211, 212, 214, 215, 216, 217, 218, 220, 221, 224, 231, 232, 235, 236, 237, 238, 239, 240, 242, 243, 244, 246, 250, 251, 252]
def env (kn : List CM.KE) : CM.Env := CM.envOf Tryz.prog 392 cmps 287 fnl 5 kn rows
theorem fns_good : CM.fnsGood Tryz.prog fnl = true := by kernel_rfl
theorem mixed : Tryz.prog.follows .mixedOrders = true := by kernel_rfl
theorem rows_good : CM.rowsGood 5 rows = true := by kernel_rfl
theorem envW {kn : List CM.KE} (h : ∀ e ∈ kn, CM.KnownOk Tryz.prog 5 rows e) : CM.EnvW Tryz.prog (env kn) := CM.envW_of fns_good mixed rows_good h
theorem none_known : ∀ e ∈ ([] : List CM.KE), CM.KnownOk Tryz.prog 5 rows e := fun _ h => by cases h
theorem more {l : List CM.KE} {e : CM.KE} (h : ∀ e ∈ l, CM.KnownOk Tryz.prog 5 rows e) (k : CM.KnownOk Tryz.prog 5 rows e) : ∀ x ∈ l ++ [e], CM.KnownOk Tryz.prog 5 rows x := by
  intro x hx
  rcases List.mem_append.1 hx with hx | hx
  · exact h x hx
  · rw [List.mem_singleton] at hx
    rw [hx]; exact k
def Tryz.lays156_ren : Go.Shelf.Ren := ⟨fun | 156 => 43 | 165 => 71 | 166 => 72 | 169 => 73 | 240 => 110 | 241 => 111 | 276 => 166 | 277 => 167 | n => n, fun | 31 => 22 | 9 => 9 | 3 => 3 | 4 => 4 | 0 => 0 | 20 => 20 | 72 => 168 | 76 => 172 | 70 => 166 | 37 => 164 | 75 => 171 | 127 => 218 | 164 => 272 | 5 => 5 | 80 => 174 | n => n, fun | n => n⟩
theorem Tryz.lays156 : Go.Proofs.Lays.n156 Tryz.prog Tryz.lays156_ren where
  mixed := by kernel_rfl
  f156 := Tryz.func43.trans (congrArg some (by kernel_rfl))
  f165 := Tryz.func71.trans (congrArg some (by kernel_rfl))
  f166 := Tryz.func72.trans (congrArg some (by kernel_rfl))
  f169 := Tryz.func73.trans (congrArg some (by kernel_rfl))
  f240 := Tryz.func110.trans (congrArg some (by kernel_rfl))
  f241 := Tryz.func111.trans (congrArg some (by kernel_rfl))
  f276 := Tryz.func166.trans (congrArg some (by kernel_rfl))
  f277 := Tryz.func167.trans (congrArg some (by kernel_rfl))
  t0 := Tryz.underlying0
  a0 := Tryz.isAgg0
  z0 := Tryz.sizeOf0
  v0 := Tryz.zeroValue0
  t3 := Tryz.underlying3
  a3 := Tryz.isAgg3
  z3 := Tryz.sizeOf3
  v3 := Tryz.zeroValue3
  t4 := Tryz.underlying4
  a4 := Tryz.isAgg4
  z4 := Tryz.sizeOf4
  v4 := Tryz.zeroValue4
  t9 := Tryz.underlying9
  a9 := Tryz.isAgg9
  z9 := Tryz.sizeOf9
  v9 := Tryz.zeroValue9
  t20 := Tryz.underlying20
  a20 := Tryz.isAgg20
  z20 := Tryz.sizeOf20
  v20 := Tryz.zeroValue20
  t31 := Tryz.underlying22
  a31 := Tryz.isAgg22
  z31 := Tryz.sizeOf22
  v31 := Tryz.zeroValue22
  t37 := Tryz.underlying164
  a37 := Tryz.isAgg164
  z37 := Tryz.sizeOf164
  v37 := Tryz.zeroValue164
  t70 := Tryz.underlying166
  a70 := Tryz.isAgg166
  z70 := Tryz.sizeOf166
  v70 := Tryz.zeroValue166
  t72 := Tryz.underlying168
  a72 := Tryz.isAgg168
  z72 := Tryz.sizeOf168
  v72 := Tryz.zeroValue168
  t75 := Tryz.underlying171
  a75 := Tryz.isAgg171
  z75 := Tryz.sizeOf171
  v75 := Tryz.zeroValue171
  t76 := Tryz.underlying172
  a76 := Tryz.isAgg172
  z76 := Tryz.sizeOf172
  v76 := Tryz.zeroValue172
  t127 := Tryz.underlying218
  a127 := Tryz.isAgg218
  z127 := Tryz.sizeOf218
  v127 := Tryz.zeroValue218
  t164 := Tryz.underlying272
  a164 := Tryz.isAgg272
  z164 := Tryz.sizeOf272
  v164 := Tryz.zeroValue272
theorem extra : Go.Proofs.Builder.Extra Tryz.prog Tryz.lays156_ren where
  sizeBuilder := by kernel_rfl
  liesBuilder := by kernel_rfl
  t5 := Tryz.underlying5
  a5 := Tryz.isAgg5
  z5 := Tryz.sizeOf5
  v5 := Tryz.zeroValue5
  infoByte := by kernel_rfl
  cellsByte := by kernel_rfl
  sizeByte := by kernel_rfl
  neB5 := by decide
def e0 : CM.KE := ⟨185, [.str [97]], [], .bool true⟩
theorem k0 : CM.KnownOk Tryz.prog 5 rows e0 := CM.known_of (m := 1000000) (envW none_known) (by kernel_rfl) rfl
def kn0 : List CM.KE := [] ++ [e0]
theorem ok0 : ∀ e ∈ kn0, CM.KnownOk Tryz.prog 5 rows e := more none_known k0
def e1 : CM.KE := ⟨185, [.str [98]], [], .bool true⟩
theorem k1 : CM.KnownOk Tryz.prog 5 rows e1 := CM.known_of (m := 1000000) (envW ok0) (by kernel_rfl) rfl
def kn1 : List CM.KE := kn0 ++ [e1]
theorem ok1 : ∀ e ∈ kn1, CM.KnownOk Tryz.prog 5 rows e := more ok0 k1
def e2 : CM.KE := ⟨185, [.str [99]], [], .bool true⟩
theorem k2 : CM.KnownOk Tryz.prog 5 rows e2 := CM.known_of (m := 1000000) (envW ok1) (by kernel_rfl) rfl
def kn2 : List CM.KE := kn1 ++ [e2]
theorem ok2 : ∀ e ∈ kn2, CM.KnownOk Tryz.prog 5 rows e := more ok1 k2
def e3 : CM.KE := ⟨185, [.str [100]], [], .bool true⟩
theorem k3 : CM.KnownOk Tryz.prog 5 rows e3 := CM.known_of (m := 1000000) (envW ok2) (by kernel_rfl) rfl
def kn3 : List CM.KE := kn2 ++ [e3]
theorem ok3 : ∀ e ∈ kn3, CM.KnownOk Tryz.prog 5 rows e := more ok2 k3
def e4 : CM.KE := ⟨185, [.str [112]], [], .bool true⟩
theorem k4 : CM.KnownOk Tryz.prog 5 rows e4 := CM.known_of (m := 1000000) (envW ok3) (by kernel_rfl) rfl
def kn4 : List CM.KE := kn3 ++ [e4]
theorem ok4 : ∀ e ∈ kn4, CM.KnownOk Tryz.prog 5 rows e := more ok3 k4
def e5 : CM.KE := ⟨185, [.str [114]], [], .bool true⟩
theorem k5 : CM.KnownOk Tryz.prog 5 rows e5 := CM.known_of (m := 1000000) (envW ok4) (by kernel_rfl) rfl
def kn5 : List CM.KE := kn4 ++ [e5]
theorem ok5 : ∀ e ∈ kn5, CM.KnownOk Tryz.prog 5 rows e := more ok4 k5
def e6 : CM.KE := ⟨185, [.str [116]], [], .bool true⟩
theorem k6 : CM.KnownOk Tryz.prog 5 rows e6 := CM.known_of (m := 1000000) (envW ok5) (by kernel_rfl) rfl
def kn6 : List CM.KE := kn5 ++ [e6]
theorem ok6 : ∀ e ∈ kn6, CM.KnownOk Tryz.prog 5 rows e := more ok5 k6
def e7 : CM.KE := ⟨43, [.slice (some (5, 0)) 3 3 1, .str [32]], [[.str [114, 105, 100, 101], .str [116], .str [48]]], .str [114, 105, 100, 101, 32, 116, 32, 48]⟩
theorem k7 : CM.KnownOk Tryz.prog 5 rows e7 := CM.join_known Tryz.lays156 extra rfl ⟨Tryz.f43, Tryz.func43, by decide +kernel, _, rfl⟩ [[114, 105, 100, 101], [116], [48]] [32] [114, 105, 100, 101, 32, 116, 32, 48] 1 (by decide) (by decide) (by decide +kernel)
def kn7 : List CM.KE := kn6 ++ [e7]
theorem ok7 : ∀ e ∈ kn7, CM.KnownOk Tryz.prog 5 rows e := more ok6 k7
def e8 : CM.KE := ⟨43, [.slice (some (5, 0)) 9 9 1, .str [32]], [[.str [114, 105, 100, 101, 32, 116, 32, 48], .str [102, 114, 111, 109], .str [97], .str [97, 116], .str [49], .str [116, 111], .str [99], .str [97, 116], .str [49, 49]]], .str [114, 105, 100, 101, 32, 116, 32, 48, 32, 102, 114, 111, 109, 32, 97, 32, 97, 116, 32, 49, 32, 116, 111, 32, 99, 32, 97, 116, 32, 49, 49]⟩
theorem k8 : CM.KnownOk Tryz.prog 5 rows e8 := CM.join_known Tryz.lays156 extra rfl ⟨Tryz.f43, Tryz.func43, by decide +kernel, _, rfl⟩ [[114, 105, 100, 101, 32, 116, 32, 48], [102, 114, 111, 109], [97], [97, 116], [49], [116, 111], [99], [97, 116], [49, 49]] [32] [114, 105, 100, 101, 32, 116, 32, 48, 32, 102, 114, 111, 109, 32, 97, 32, 97, 116, 32, 49, 32, 116, 111, 32, 99, 32, 97, 116, 32, 49, 49] 1 (by decide) (by decide) (by decide +kernel)
def kn8 : List CM.KE := kn7 ++ [e8]
theorem ok8 : ∀ e ∈ kn8, CM.KnownOk Tryz.prog 5 rows e := more ok7 k8
def e9 : CM.KE := ⟨43, [.slice (some (5, 0)) 2 2 1, .str [32]], [[.str [119, 97, 108, 107], .str [112]]], .str [119, 97, 108, 107, 32, 112]⟩
theorem k9 : CM.KnownOk Tryz.prog 5 rows e9 := CM.join_known Tryz.lays156 extra rfl ⟨Tryz.f43, Tryz.func43, by decide +kernel, _, rfl⟩ [[119, 97, 108, 107], [112]] [32] [119, 97, 108, 107, 32, 112] 1 (by decide) (by decide) (by decide +kernel)
def kn9 : List CM.KE := kn8 ++ [e9]
theorem ok9 : ∀ e ∈ kn9, CM.KnownOk Tryz.prog 5 rows e := more ok8 k9
def e10 : CM.KE := ⟨43, [.slice (some (5, 0)) 9 9 1, .str [32]], [[.str [119, 97, 108, 107, 32, 112], .str [102, 114, 111, 109], .str [99], .str [97, 116], .str [49, 50], .str [116, 111], .str [100], .str [97, 116], .str [49, 54]]], .str [119, 97, 108, 107, 32, 112, 32, 102, 114, 111, 109, 32, 99, 32, 97, 116, 32, 49, 50, 32, 116, 111, 32, 100, 32, 97, 116, 32, 49, 54]⟩
theorem k10 : CM.KnownOk Tryz.prog 5 rows e10 := CM.join_known Tryz.lays156 extra rfl ⟨Tryz.f43, Tryz.func43, by decide +kernel, _, rfl⟩ [[119, 97, 108, 107, 32, 112], [102, 114, 111, 109], [99], [97, 116], [49, 50], [116, 111], [100], [97, 116], [49, 54]] [32] [119, 97, 108, 107, 32, 112, 32, 102, 114, 111, 109, 32, 99, 32, 97, 116, 32, 49, 50, 32, 116, 111, 32, 100, 32, 97, 116, 32, 49, 54] 1 (by decide) (by decide) (by decide +kernel)
def kn10 : List CM.KE := kn9 ++ [e10]
theorem ok10 : ∀ e ∈ kn10, CM.KnownOk Tryz.prog 5 rows e := more ok9 k10
def e11 : CM.KE := ⟨45, [.agg [.int .i64 30, .slice (some (5, 0)) 4 4 0, .slice (some (6, 0)) 1 1 0, .slice none 0 0 0, .slice (some (7, 0)) 1 1 0, .slice (some (8, 0)) 1 1 0, .slice none 0 0 0, .slice (some (9, 0)) 1 1 0, .slice none 0 0 0, .slice (some (10, 0)) 1 1 0, .slice (some (11, 0)) 1 1 0, .slice none 0 0 0]], [[.str [97], .str [98], .str [99], .str [100]], [.str [112]], [.str [114]], [.str [116]], [.int .i64 2, .int .i64 3, .int .i64 4], [.slice (some (12, 0)) 3 3 0, .slice (some (13, 0)) 2 2 0, .slice (some (14, 0)) 1 1 0], [.int .i64 0, .int .i64 1, .int .i64 10, .int .i64 40], [.int .i64 0, .int .i64 1, .int .i64 2], [.int .i64 5, .int .i64 3], [.int .i64 2]], .bool true⟩
theorem k11 : CM.KnownOk Tryz.prog 5 rows e11 := CM.known_of (m := 1000000) (envW ok10) (by kernel_rfl) rfl
def kn11 : List CM.KE := kn10 ++ [e11]
theorem ok11 : ∀ e ∈ kn11, CM.KnownOk Tryz.prog 5 rows e := more ok10 k11
def e12 : CM.KE := ⟨173, [.str [97]], [], .bool false⟩
theorem k12 : CM.KnownOk Tryz.prog 5 rows e12 := CM.known_of (m := 1000000) (envW ok11) (by kernel_rfl) rfl
def kn12 : List CM.KE := kn11 ++ [e12]
theorem ok12 : ∀ e ∈ kn12, CM.KnownOk Tryz.prog 5 rows e := more ok11 k12
def e13 : CM.KE := ⟨173, [.str [98]], [], .bool false⟩
theorem k13 : CM.KnownOk Tryz.prog 5 rows e13 := CM.known_of (m := 1000000) (envW ok12) (by kernel_rfl) rfl
def kn13 : List CM.KE := kn12 ++ [e13]
theorem ok13 : ∀ e ∈ kn13, CM.KnownOk Tryz.prog 5 rows e := more ok12 k13
def e14 : CM.KE := ⟨173, [.str [99]], [], .bool false⟩
theorem k14 : CM.KnownOk Tryz.prog 5 rows e14 := CM.known_of (m := 1000000) (envW ok13) (by kernel_rfl) rfl
def kn14 : List CM.KE := kn13 ++ [e14]
theorem ok14 : ∀ e ∈ kn14, CM.KnownOk Tryz.prog 5 rows e := more ok13 k14
def e15 : CM.KE := ⟨173, [.str [100]], [], .bool false⟩
theorem k15 : CM.KnownOk Tryz.prog 5 rows e15 := CM.known_of (m := 1000000) (envW ok14) (by kernel_rfl) rfl
def kn15 : List CM.KE := kn14 ++ [e15]
theorem ok15 : ∀ e ∈ kn15, CM.KnownOk Tryz.prog 5 rows e := more ok14 k15
def e16 : CM.KE := ⟨173, [.str [112]], [], .bool false⟩
theorem k16 : CM.KnownOk Tryz.prog 5 rows e16 := CM.known_of (m := 1000000) (envW ok15) (by kernel_rfl) rfl
def kn16 : List CM.KE := kn15 ++ [e16]
theorem ok16 : ∀ e ∈ kn16, CM.KnownOk Tryz.prog 5 rows e := more ok15 k16
def e17 : CM.KE := ⟨173, [.str [114]], [], .bool false⟩
theorem k17 : CM.KnownOk Tryz.prog 5 rows e17 := CM.known_of (m := 1000000) (envW ok16) (by kernel_rfl) rfl
def kn17 : List CM.KE := kn16 ++ [e17]
theorem ok17 : ∀ e ∈ kn17, CM.KnownOk Tryz.prog 5 rows e := more ok16 k17
def e18 : CM.KE := ⟨173, [.str [116]], [], .bool false⟩
theorem k18 : CM.KnownOk Tryz.prog 5 rows e18 := CM.known_of (m := 1000000) (envW ok17) (by kernel_rfl) rfl
def kn18 : List CM.KE := kn17 ++ [e18]
theorem ok18 : ∀ e ∈ kn18, CM.KnownOk Tryz.prog 5 rows e := more ok17 k18
def e19 : CM.KE := ⟨77, [.agg [.int .i64 30, .slice (some (5, 0)) 4 4 1, .slice (some (6, 0)) 1 1 4, .slice none 0 0 0, .slice (some (7, 0)) 1 1 4, .slice (some (8, 0)) 1 1 5, .slice none 0 0 0]], [[.str [97], .str [98], .str [99], .str [100]], [.str [112], .str [99], .str [100], .int .i64 4], [.str [114], .slice (some (9, 0)) 3 3 1, .slice (some (10, 0)) 2 2 1, .slice (some (11, 0)) 1 1 1], [.str [116], .str [114], .int .i64 1, .int .i64 10, .int .i64 40], [.str [97], .str [98], .str [99]], [.int .i64 5, .int .i64 3], [.int .i64 2]], .int .i64 0⟩
theorem k19 : CM.KnownOk Tryz.prog 5 rows e19 := CM.known_of (m := 1000000) (envW ok18) (by kernel_rfl) rfl
def kn19 : List CM.KE := kn18 ++ [e19]
theorem ok19 : ∀ e ∈ kn19, CM.KnownOk Tryz.prog 5 rows e := more ok18 k19
def e20 : CM.KE := ⟨79, [.agg [.slice (some (5, 0)) 4 4 1, .slice (some (6, 0)) 1 1 1, .slice none 0 0 0, .slice (some (7, 0)) 1 1 1, .slice (some (8, 0)) 1 1 1, .slice none 0 0 0]], [[.str [97], .str [98], .str [99], .str [100]], [.str [112]], [.str [114]], [.str [116]]], .agg [.int .i64 0, .int .i64 0, .int .i64 0]⟩
theorem k20 : CM.KnownOk Tryz.prog 5 rows e20 := CM.known_of (m := 1000000) (envW ok19) (by kernel_rfl) rfl
def kn20 : List CM.KE := kn19 ++ [e20]
theorem ok20 : ∀ e ∈ kn20, CM.KnownOk Tryz.prog 5 rows e := more ok19 k20
def e21 : CM.KE := ⟨122, [.agg [.slice (some (5, 0)) 3 3 1, .slice (some (6, 0)) 2 2 1, .slice (some (7, 0)) 1 1 1]], [[.int .i64 0, .int .i64 1, .int .i64 2], [.int .i64 5, .int .i64 3], [.int .i64 2]], .int .i64 0⟩
theorem k21 : CM.KnownOk Tryz.prog 5 rows e21 := CM.known_of (m := 1000000) (envW ok20) (by kernel_rfl) rfl
def kn21 : List CM.KE := kn20 ++ [e21]
theorem ok21 : ∀ e ∈ kn21, CM.KnownOk Tryz.prog 5 rows e := more ok20 k21
def e22 : CM.KE := ⟨80, [.agg [.int .i64 30, .slice (some (5, 0)) 4 4 1, .slice (some (6, 0)) 1 1 1, .slice none 0 0 0, .slice (some (7, 0)) 1 1 1, .slice (some (8, 0)) 1 1 1, .slice none 0 0 0, .slice (some (9, 0)) 1 1 3, .slice none 0 0 0, .slice (some (10, 0)) 1 1 3, .slice (some (11, 0)) 1 1 4, .slice none 0 0 0]], [[.str [97], .str [98], .str [99], .str [100]], [.str [112]], [.str [114]], [.str [116]], [.int .i64 2, .int .i64 3, .int .i64 4], [.slice (some (12, 0)) 3 3 1, .slice (some (13, 0)) 2 2 1, .slice (some (14, 0)) 1 1 1], [.int .i64 0, .int .i64 1, .int .i64 10, .int .i64 40], [.int .i64 0, .int .i64 1, .int .i64 2], [.int .i64 5, .int .i64 3], [.int .i64 2]], .agg [.int .i64 0, .int .i64 0, .int .i64 0]⟩
theorem k22 : CM.KnownOk Tryz.prog 5 rows e22 := CM.known_of (m := 1000000) (envW ok21) (by kernel_rfl) rfl
def kn22 : List CM.KE := kn21 ++ [e22]
theorem ok22 : ∀ e ∈ kn22, CM.KnownOk Tryz.prog 5 rows e := more ok21 k22
def e23 : CM.KE := ⟨29, [.agg [.int .i64 30, .slice (some (5, 0)) 4 4 0, .slice (some (6, 0)) 1 1 0, .slice none 0 0 0, .slice (some (7, 0)) 1 1 0, .slice (some (8, 0)) 1 1 0, .slice none 0 0 0, .slice (some (9, 0)) 1 1 0, .slice none 0 0 0, .slice (some (10, 0)) 1 1 0, .slice (some (11, 0)) 1 1 0, .slice none 0 0 0]], [[.str [97], .str [98], .str [99], .str [100]], [.str [112]], [.str [114]], [.str [116]], [.int .i64 2, .int .i64 3, .int .i64 4], [.slice (some (12, 0)) 3 3 0, .slice (some (13, 0)) 2 2 0, .slice (some (14, 0)) 1 1 0], [.int .i64 0, .int .i64 1, .int .i64 10, .int .i64 40], [.int .i64 0, .int .i64 1, .int .i64 2], [.int .i64 5, .int .i64 3], [.int .i64 2]], .agg [.int .i64 0, .int .i64 0, .int .i64 0]⟩
theorem k23 : CM.KnownOk Tryz.prog 5 rows e23 := CM.known_of (m := 1000000) (envW ok22) (by kernel_rfl) rfl
def kn23 : List CM.KE := kn22 ++ [e23]
theorem ok23 : ∀ e ∈ kn23, CM.KnownOk Tryz.prog 5 rows e := more ok22 k23
def e24 : CM.KE := ⟨30, [.agg [.int .i64 30, .slice (some (5, 0)) 4 4 0, .slice (some (6, 0)) 1 1 0, .slice none 0 0 0, .slice (some (7, 0)) 1 1 0, .slice (some (8, 0)) 1 1 0, .slice none 0 0 0, .slice (some (9, 0)) 1 1 0, .slice none 0 0 0, .slice (some (10, 0)) 1 1 0, .slice (some (11, 0)) 1 1 0, .slice none 0 0 0], .int .i64 0], [[.str [97], .str [98], .str [99], .str [100]], [.str [112]], [.str [114]], [.str [116]], [.int .i64 2, .int .i64 3, .int .i64 4], [.slice (some (12, 0)) 3 3 0, .slice (some (13, 0)) 2 2 0, .slice (some (14, 0)) 1 1 0], [.int .i64 0, .int .i64 1, .int .i64 10, .int .i64 40], [.int .i64 0, .int .i64 1, .int .i64 2], [.int .i64 5, .int .i64 3], [.int .i64 2]], .int .i64 2⟩
theorem k24 : CM.KnownOk Tryz.prog 5 rows e24 := CM.known_of (m := 1000000) (envW ok23) (by kernel_rfl) rfl
def kn24 : List CM.KE := kn23 ++ [e24]
theorem ok24 : ∀ e ∈ kn24, CM.KnownOk Tryz.prog 5 rows e := more ok23 k24
def e25 : CM.KE := ⟨90, [.agg [.int .i64 30, .slice (some (5, 0)) 4 4 1, .slice (some (6, 0)) 1 1 1, .slice (some (7, 0)) 0 0 0, .slice (some (8, 0)) 1 1 1, .slice (some (9, 0)) 1 1 1, .slice (some (10, 0)) 0 0 0, .slice (some (11, 0)) 1 1 3, .slice (some (12, 0)) 0 0 0, .slice (some (13, 0)) 1 1 3, .slice (some (14, 0)) 1 1 4, .slice (some (15, 0)) 0 0 0]], [[.str [97], .str [98], .str [99], .str [100]], [.str [112]], [], [.str [114]], [.str [116]], [], [.int .i64 2, .int .i64 3, .int .i64 4], [], [.slice (some (16, 0)) 3 3 1, .slice (some (17, 0)) 2 2 1, .slice (some (18, 0)) 1 1 1], [.int .i64 0, .int .i64 1, .int .i64 10, .int .i64 40], [], [.int .i64 0, .int .i64 1, .int .i64 2], [.int .i64 5, .int .i64 3], [.int .i64 2]], .bool true⟩
theorem k25 : CM.KnownOk Tryz.prog 5 rows e25 := CM.known_of (m := 1000000) (envW ok24) (by kernel_rfl) rfl
def kn25 : List CM.KE := kn24 ++ [e25]
theorem ok25 : ∀ e ∈ kn25, CM.KnownOk Tryz.prog 5 rows e := more ok24 k25
def e26 : CM.KE := ⟨141, [.agg [.int .i64 30, .slice (some (5, 0)) 4 4 1, .slice (some (6, 0)) 1 1 4, .slice none 0 0 0, .slice (some (7, 0)) 1 1 4, .slice (some (8, 0)) 1 1 5, .slice none 0 0 0]], [[.str [97], .str [98], .str [99], .str [100]], [.str [112], .str [99], .str [100], .int .i64 4], [.str [114], .slice (some (9, 0)) 3 3 1, .slice (some (10, 0)) 2 2 1, .slice (some (11, 0)) 1 1 1], [.str [116], .str [114], .int .i64 1, .int .i64 10, .int .i64 40], [.str [97], .str [98], .str [99]], [.int .i64 5, .int .i64 3], [.int .i64 2]], .int .i64 0⟩
theorem k26 : CM.KnownOk Tryz.prog 5 rows e26 := CM.known_of (m := 1000000) (envW ok25) (by kernel_rfl) rfl
def kn26 : List CM.KE := kn25 ++ [e26]
theorem ok26 : ∀ e ∈ kn26, CM.KnownOk Tryz.prog 5 rows e := more ok25 k26
def e27 : CM.KE := ⟨143, [.ptr (some (5, 0))], [[.int .i64 30, .slice (some (6, 0)) 4 4 1, .slice (some (7, 0)) 1 1 1, .slice none 0 0 0, .slice (some (8, 0)) 1 1 1, .slice (some (9, 0)) 1 1 1, .slice none 0 0 0, .slice (some (10, 0)) 1 1 3, .slice none 0 0 0, .slice (some (11, 0)) 1 1 3, .slice (some (12, 0)) 1 1 4, .slice none 0 0 0], [.str [97], .str [98], .str [99], .str [100]], [.str [112]], [.str [114]], [.str [116]], [.int .i64 2, .int .i64 3, .int .i64 4], [.slice (some (13, 0)) 3 3 1, .slice (some (14, 0)) 2 2 1, .slice (some (15, 0)) 1 1 1], [.int .i64 0, .int .i64 1, .int .i64 10, .int .i64 40], [.int .i64 0, .int .i64 1, .int .i64 2], [.int .i64 5, .int .i64 3], [.int .i64 2]], .agg [.int .i64 0, .int .i64 0, .int .i64 0]⟩
theorem k27 : CM.KnownOk Tryz.prog 5 rows e27 := CM.known_of (m := 1000000) (envW ok26) (by kernel_rfl) rfl
def kn27 : List CM.KE := kn26 ++ [e27]
theorem ok27 : ∀ e ∈ kn27, CM.KnownOk Tryz.prog 5 rows e := more ok26 k27
def e28 : CM.KE := ⟨59, [.agg [.int .i64 30, .slice (some (5, 0)) 4 4 1, .slice (some (6, 0)) 1 1 1, .slice (some (7, 0)) 0 0 0, .slice (some (8, 0)) 1 1 1, .slice (some (9, 0)) 1 1 1, .slice (some (10, 0)) 0 0 0, .slice (some (11, 0)) 1 1 3, .slice (some (12, 0)) 0 0 0, .slice (some (13, 0)) 1 1 3, .slice (some (14, 0)) 1 1 4, .slice (some (15, 0)) 0 0 0]], [[.str [97], .str [98], .str [99], .str [100]], [.str [112]], [], [.str [114]], [.str [116]], [], [.int .i64 2, .int .i64 3, .int .i64 4], [], [.slice (some (16, 0)) 3 3 1, .slice (some (17, 0)) 2 2 1, .slice (some (18, 0)) 1 1 1], [.int .i64 0, .int .i64 1, .int .i64 10, .int .i64 40], [], [.int .i64 0, .int .i64 1, .int .i64 2], [.int .i64 5, .int .i64 3], [.int .i64 2]], .agg [.int .i64 0, .int .i64 0, .int .i64 0]⟩
theorem k28 : CM.KnownOk Tryz.prog 5 rows e28 := CM.known_of (m := 1000000) (envW ok27) (by kernel_rfl) rfl
def kn28 : List CM.KE := kn27 ++ [e28]
theorem ok28 : ∀ e ∈ kn28, CM.KnownOk Tryz.prog 5 rows e := more ok27 k28
def e29 : CM.KE := ⟨85, [.int .i64 1, .int .i64 10, .int .i64 2], [], .tup [.int .i64 21, .int .i64 0]⟩
theorem k29 : CM.KnownOk Tryz.prog 5 rows e29 := CM.known_of (m := 1000000) (envW ok28) (by kernel_rfl) rfl
def kn29 : List CM.KE := kn28 ++ [e29]
theorem ok29 : ∀ e ∈ kn29, CM.KnownOk Tryz.prog 5 rows e := more ok28 k29
def e30 : CM.KE := ⟨124, [.int .i64 2, .ptr (some (5, 0)), .ptr (some (6, 0))], [[.int .i64 30, .slice (some (7, 0)) 4 4 1, .slice (some (8, 0)) 1 1 1, .slice (some (9, 0)) 0 0 0, .slice (some (10, 0)) 1 1 1, .slice (some (11, 0)) 1 1 1, .slice (some (12, 0)) 0 0 0, .slice (some (13, 0)) 1 1 3, .slice (some (14, 0)) 0 0 0, .slice (some (15, 0)) 1 1 3, .slice (some (16, 0)) 1 1 4, .slice (some (17, 0)) 0 0 0], [.int .i64 0], [.str [97], .str [98], .str [99], .str [100]], [.str [112]], [], [.str [114]], [.str [116]], [], [.int .i64 2, .int .i64 3, .int .i64 4], [], [.slice (some (18, 0)) 3 3 1, .slice (some (19, 0)) 2 2 1, .slice (some (20, 0)) 1 1 1], [.int .i64 0, .int .i64 1, .int .i64 10, .int .i64 40], [], [.int .i64 0, .int .i64 1, .int .i64 2], [.int .i64 5, .int .i64 3], [.int .i64 2]], .bool true⟩
theorem k30 : CM.KnownOk Tryz.prog 5 rows e30 := CM.known_of (m := 1000000) (envW ok29) (by kernel_rfl) rfl
def kn30 : List CM.KE := kn29 ++ [e30]
theorem ok30 : ∀ e ∈ kn30, CM.KnownOk Tryz.prog 5 rows e := more ok29 k30
def e31 : CM.KE := ⟨85, [.int .i64 1, .int .i64 10, .int .i64 1], [], .tup [.int .i64 11, .int .i64 0]⟩
theorem k31 : CM.KnownOk Tryz.prog 5 rows e31 := CM.known_of (m := 1000000) (envW ok30) (by kernel_rfl) rfl
def kn31 : List CM.KE := kn30 ++ [e31]
theorem ok31 : ∀ e ∈ kn31, CM.KnownOk Tryz.prog 5 rows e := more ok30 k31
def e32 : CM.KE := ⟨124, [.int .i64 1, .ptr (some (5, 0)), .ptr (some (6, 0))], [[.int .i64 30, .slice (some (7, 0)) 4 4 1, .slice (some (8, 0)) 1 1 1, .slice (some (9, 0)) 0 0 0, .slice (some (10, 0)) 1 1 1, .slice (some (11, 0)) 1 1 1, .slice (some (12, 0)) 0 0 0, .slice (some (13, 0)) 1 1 3, .slice (some (14, 0)) 0 0 0, .slice (some (15, 0)) 1 1 3, .slice (some (16, 0)) 1 1 4, .slice (some (17, 0)) 0 0 0], [.int .i64 0], [.str [97], .str [98], .str [99], .str [100]], [.str [112]], [], [.str [114]], [.str [116]], [], [.int .i64 2, .int .i64 3, .int .i64 4], [], [.slice (some (18, 0)) 3 3 1, .slice (some (19, 0)) 2 2 1, .slice (some (20, 0)) 1 1 1], [.int .i64 0, .int .i64 1, .int .i64 10, .int .i64 40], [], [.int .i64 0, .int .i64 1, .int .i64 2], [.int .i64 5, .int .i64 3], [.int .i64 2]], .bool false⟩
theorem k32 : CM.KnownOk Tryz.prog 5 rows e32 := CM.known_of (m := 1000000) (envW ok31) (by kernel_rfl) rfl
def kn32 : List CM.KE := kn31 ++ [e32]
theorem ok32 : ∀ e ∈ kn32, CM.KnownOk Tryz.prog 5 rows e := more ok31 k32
def e33 : CM.KE := ⟨83, [.agg [.int .i64 30, .slice (some (5, 0)) 4 4 1, .slice (some (6, 0)) 1 1 1, .slice (some (7, 0)) 0 0 0, .slice (some (8, 0)) 1 1 1, .slice (some (9, 0)) 1 1 1, .slice (some (10, 0)) 0 0 0, .slice (some (11, 0)) 1 1 3, .slice (some (12, 0)) 0 0 0, .slice (some (13, 0)) 1 1 3, .slice (some (14, 0)) 1 1 4, .slice (some (15, 0)) 0 0 0], .int .i64 0], [[.str [97], .str [98], .str [99], .str [100]], [.str [112]], [], [.str [114]], [.str [116]], [], [.int .i64 2, .int .i64 3, .int .i64 4], [], [.slice (some (16, 0)) 3 3 1, .slice (some (17, 0)) 2 2 1, .slice (some (18, 0)) 1 1 1], [.int .i64 0, .int .i64 1, .int .i64 10, .int .i64 40], [], [.int .i64 0, .int .i64 1, .int .i64 2], [.int .i64 5, .int .i64 3], [.int .i64 2]], .int .i64 2⟩
theorem k33 : CM.KnownOk Tryz.prog 5 rows e33 := CM.known_of (m := 1000000) (envW ok32) (by kernel_rfl) rfl
def kn33 : List CM.KE := kn32 ++ [e33]
theorem ok33 : ∀ e ∈ kn33, CM.KnownOk Tryz.prog 5 rows e := more ok32 k33
def e34 : CM.KE := ⟨85, [.int .i64 1, .int .i64 10, .int .i64 0], [], .tup [.int .i64 1, .int .i64 0]⟩
theorem k34 : CM.KnownOk Tryz.prog 5 rows e34 := CM.known_of (m := 1000000) (envW ok33) (by kernel_rfl) rfl
def kn34 : List CM.KE := kn33 ++ [e34]
theorem ok34 : ∀ e ∈ kn34, CM.KnownOk Tryz.prog 5 rows e := more ok33 k34
def e35 : CM.KE := ⟨55, [.agg [.int .i64 0, .int .i64 0, .int .i64 1, .int .i64 4], .agg [.int .i64 0, .int .i64 0, .int .i64 (-4611686018427387904), .int .i64 0]], [], .int .i64 1⟩
theorem k35 : CM.KnownOk Tryz.prog 5 rows e35 := CM.known_of (m := 1000000) (envW ok34) (by kernel_rfl) rfl
def kn35 : List CM.KE := kn34 ++ [e35]
theorem ok35 : ∀ e ∈ kn35, CM.KnownOk Tryz.prog 5 rows e := more ok34 k35
def e36 : CM.KE := ⟨171, [.agg [.int .i64 0, .int .i64 0, .slice (some (5, 0)) 3 3 1, .slice (some (6, 0)) 3 3 1]], [[.int .i64 1, .int .i64 6, .int .i64 11], [.int .i64 1, .int .i64 8, .int .i64 11]], .bool true⟩
theorem k36 : CM.KnownOk Tryz.prog 5 rows e36 := CM.known_of (m := 1000000) (envW ok35) (by kernel_rfl) rfl
def kn36 : List CM.KE := kn35 ++ [e36]
theorem ok36 : ∀ e ∈ kn36, CM.KnownOk Tryz.prog 5 rows e := more ok35 k36
def e37 : CM.KE := ⟨34, [.agg [.int .i64 30, .slice (some (5, 0)) 4 4 1, .slice (some (6, 0)) 1 1 1, .slice (some (7, 0)) 0 0 0, .slice (some (8, 0)) 1 1 1, .slice (some (9, 0)) 1 1 1, .slice (some (10, 0)) 0 0 0, .slice (some (11, 0)) 1 1 3, .slice (some (12, 0)) 0 0 0, .slice (some (13, 0)) 1 1 3, .slice (some (14, 0)) 1 1 4, .slice (some (15, 0)) 0 0 0, .slice (some (16, 0)) 1 1 0, .slice (some (17, 0)) 0 0 0], .slice (some (18, 0)) 1 1 0], [[.str [97], .str [98], .str [99], .str [100]], [.str [112]], [], [.str [114]], [.str [116]], [], [.int .i64 2, .int .i64 3, .int .i64 4], [], [.slice (some (19, 0)) 3 3 1, .slice (some (20, 0)) 2 2 1, .slice (some (21, 0)) 1 1 1], [.int .i64 0, .int .i64 1, .int .i64 10, .int .i64 40], [], [.int .i64 0, .int .i64 0, .int .i64 1, .int .i64 4], [], [.int .i64 2], [.int .i64 0, .int .i64 1, .int .i64 2], [.int .i64 5, .int .i64 3], [.int .i64 2]], .int .i64 0⟩
theorem k37 : CM.KnownOk Tryz.prog 5 rows e37 := CM.known_of (m := 1000000) (envW ok36) (by kernel_rfl) rfl
def kn37 : List CM.KE := kn36 ++ [e37]
theorem ok37 : ∀ e ∈ kn37, CM.KnownOk Tryz.prog 5 rows e := more ok36 k37
def e38 : CM.KE := ⟨22, [.agg [.int .i64 30, .slice (some (5, 0)) 4 4 1, .slice (some (6, 0)) 1 1 1, .slice (some (7, 0)) 0 0 0, .slice (some (8, 0)) 1 1 1, .slice (some (9, 0)) 1 1 1, .slice (some (10, 0)) 0 0 0, .slice (some (11, 0)) 1 1 3, .slice (some (12, 0)) 0 0 0, .slice (some (13, 0)) 1 1 3, .slice (some (14, 0)) 1 1 4, .slice (some (15, 0)) 0 0 0, .slice (some (16, 0)) 1 1 0, .slice (some (17, 0)) 0 0 0]], [[.str [97], .str [98], .str [99], .str [100]], [.str [112]], [], [.str [114]], [.str [116]], [], [.int .i64 2, .int .i64 3, .int .i64 4], [], [.slice (some (18, 0)) 3 3 1, .slice (some (19, 0)) 2 2 1, .slice (some (20, 0)) 1 1 1], [.int .i64 0, .int .i64 1, .int .i64 10, .int .i64 40], [], [.int .i64 0, .int .i64 0, .int .i64 1, .int .i64 4], [], [.int .i64 0, .int .i64 1, .int .i64 2], [.int .i64 5, .int .i64 3], [.int .i64 2]], .int .i64 0⟩
theorem k38 : CM.KnownOk Tryz.prog 5 rows e38 := CM.known_of (m := 1000000) (envW ok37) (by kernel_rfl) rfl
def kn38 : List CM.KE := kn37 ++ [e38]
theorem ok38 : ∀ e ∈ kn38, CM.KnownOk Tryz.prog 5 rows e := more ok37 k38
def e39 : CM.KE := ⟨65, [.agg [.int .i64 30, .slice (some (5, 0)) 4 4 1, .slice (some (6, 0)) 2 2 7]], [[.slice none 0 0 0, .slice none 0 0 0, .slice none 0 0 0, .slice none 0 0 0], [.int .i64 2, .int .i64 3, .int .i64 4, .bool false, .int .i64 0, .slice none 0 0 0, .slice none 0 0 0, .int .i64 3, .int .i64 2, .int .i64 4, .bool false, .int .i64 0, .slice none 0 0 0, .slice none 0 0 0]], .int .i64 0⟩
theorem k39 : CM.KnownOk Tryz.prog 5 rows e39 := CM.known_of (m := 1000000) (envW ok38) (by kernel_rfl) rfl
def kn39 : List CM.KE := kn38 ++ [e39]
theorem ok39 : ∀ e ∈ kn39, CM.KnownOk Tryz.prog 5 rows e := more ok38 k39
def e40 : CM.KE := ⟨67, [.slice none 0 0 0, .int .i64 1], [], .bool false⟩
theorem k40 : CM.KnownOk Tryz.prog 5 rows e40 := CM.known_of (m := 1000000) (envW ok39) (by kernel_rfl) rfl
def kn40 : List CM.KE := kn39 ++ [e40]
theorem ok40 : ∀ e ∈ kn40, CM.KnownOk Tryz.prog 5 rows e := more ok39 k40
def e41 : CM.KE := ⟨25, [.ptr (some (5, 0)), .agg [.int .i64 (-1), .int .i64 0, .int .i64 0, .int .i64 0, .int .i64 0, .int .i64 2]], [[.int .i64 30, .slice (some (6, 0)) 4 4 1, .slice (some (7, 0)) 1 1 1, .slice (some (8, 0)) 0 0 0, .slice (some (9, 0)) 1 1 1, .slice (some (10, 0)) 1 1 1, .slice (some (11, 0)) 0 0 0, .slice (some (12, 0)) 1 1 3, .slice (some (13, 0)) 0 0 0, .slice (some (14, 0)) 1 1 3, .slice (some (15, 0)) 1 1 4, .slice (some (16, 0)) 0 0 0, .slice (some (17, 0)) 1 1 0, .slice (some (18, 0)) 0 0 0, .int .i64 30, .slice (some (19, 0)) 4 4 1, .slice (some (20, 0)) 2 2 7, .int .i64 0, .int .i64 2, .int .i64 0], [.str [97], .str [98], .str [99], .str [100]], [.str [112]], [], [.str [114]], [.str [116]], [], [.int .i64 2, .int .i64 3, .int .i64 4], [], [.slice (some (21, 0)) 3 3 1, .slice (some (22, 0)) 2 2 1, .slice (some (23, 0)) 1 1 1], [.int .i64 0, .int .i64 1, .int .i64 10, .int .i64 40], [], [.int .i64 0, .int .i64 0, .int .i64 1, .int .i64 4], [], [.slice none 0 0 0, .slice none 0 0 0, .slice none 0 0 0, .slice none 0 0 0], [.int .i64 2, .int .i64 3, .int .i64 4, .bool false, .int .i64 0, .slice none 0 0 0, .slice none 0 0 0, .int .i64 3, .int .i64 2, .int .i64 4, .bool false, .int .i64 0, .slice none 0 0 0, .slice none 0 0 0], [.int .i64 0, .int .i64 1, .int .i64 2], [.int .i64 5, .int .i64 3], [.int .i64 2]], .int .i64 8⟩
theorem k41 : CM.KnownOk Tryz.prog 5 rows e41 := CM.known_of (m := 1000000) (envW ok40) (by kernel_rfl) rfl
def kn41 : List CM.KE := kn40 ++ [e41]
theorem ok41 : ∀ e ∈ kn41, CM.KnownOk Tryz.prog 5 rows e := more ok40 k41
def e42 : CM.KE := ⟨22, [.agg [.int .i64 30, .slice (some (5, 0)) 4 4 1, .slice (some (6, 0)) 1 1 1, .slice (some (7, 0)) 0 0 0, .slice (some (8, 0)) 1 1 1, .slice (some (9, 0)) 1 1 1, .slice (some (10, 0)) 0 0 0, .slice (some (11, 0)) 1 1 3, .slice (some (12, 0)) 0 0 0, .slice (some (13, 0)) 1 1 3, .slice (some (14, 0)) 1 1 4, .slice (some (15, 0)) 0 0 0, .slice (some (16, 0)) 0 0 0, .slice (some (17, 0)) 0 0 0]], [[.str [97], .str [98], .str [99], .str [100]], [.str [112]], [], [.str [114]], [.str [116]], [], [.int .i64 2, .int .i64 3, .int .i64 4], [], [.slice (some (18, 0)) 3 3 1, .slice (some (19, 0)) 2 2 1, .slice (some (20, 0)) 1 1 1], [.int .i64 0, .int .i64 1, .int .i64 10, .int .i64 40], [], [], [], [.int .i64 0, .int .i64 1, .int .i64 2], [.int .i64 5, .int .i64 3], [.int .i64 2]], .int .i64 0⟩
theorem k42 : CM.KnownOk Tryz.prog 5 rows e42 := CM.known_of (m := 1000000) (envW ok41) (by kernel_rfl) rfl
def kn42 : List CM.KE := kn41 ++ [e42]
theorem ok42 : ∀ e ∈ kn42, CM.KnownOk Tryz.prog 5 rows e := more ok41 k42
def e43 : CM.KE := ⟨157, [.slice none 0 0 0, .int .i64 12, .int .i64 1], [], .int .i64 12⟩
theorem k43 : CM.KnownOk Tryz.prog 5 rows e43 := CM.known_of (m := 1000000) (envW ok42) (by kernel_rfl) rfl
def kn43 : List CM.KE := kn42 ++ [e43]
theorem ok43 : ∀ e ∈ kn43, CM.KnownOk Tryz.prog 5 rows e := more ok42 k43
def e44 : CM.KE := ⟨157, [.slice none 0 0 0, .int .i64 12, .int .i64 4], [], .int .i64 12⟩
theorem k44 : CM.KnownOk Tryz.prog 5 rows e44 := CM.known_of (m := 1000000) (envW ok43) (by kernel_rfl) rfl
def kn44 : List CM.KE := kn43 ++ [e44]
theorem ok44 : ∀ e ∈ kn44, CM.KnownOk Tryz.prog 5 rows e := more ok43 k44
def e45 : CM.KE := ⟨63, [.agg [.int .i64 30, .slice (some (5, 0)) 4 4 1, .slice (some (6, 0)) 2 2 7], .int .i64 0, .int .i64 12], [[.slice none 0 0 0, .slice none 0 0 0, .slice none 0 0 0, .slice none 0 0 0], [.int .i64 2, .int .i64 3, .int .i64 4, .bool false, .int .i64 0, .slice none 0 0 0, .slice none 0 0 0, .int .i64 3, .int .i64 2, .int .i64 4, .bool false, .int .i64 0, .slice none 0 0 0, .slice none 0 0 0]], .tup [.int .i64 12, .int .i64 16]⟩
theorem k45 : CM.KnownOk Tryz.prog 5 rows e45 := CM.known_of (m := 1000000) (envW ok44) (by kernel_rfl) rfl
def kn45 : List CM.KE := kn44 ++ [e45]
theorem ok45 : ∀ e ∈ kn45, CM.KnownOk Tryz.prog 5 rows e := more ok44 k45
def e46 : CM.KE := ⟨22, [.agg [.int .i64 30, .slice (some (5, 0)) 4 4 1, .slice (some (6, 0)) 1 1 1, .slice (some (7, 0)) 0 0 0, .slice (some (8, 0)) 1 1 1, .slice (some (9, 0)) 1 1 1, .slice (some (10, 0)) 0 0 0, .slice (some (11, 0)) 1 1 3, .slice (some (12, 0)) 0 0 0, .slice (some (13, 0)) 1 1 3, .slice (some (14, 0)) 1 1 4, .slice (some (15, 0)) 0 0 0, .slice (some (16, 0)) 0 0 0, .slice (some (17, 0)) 1 1 0]], [[.str [97], .str [98], .str [99], .str [100]], [.str [112]], [], [.str [114]], [.str [116]], [], [.int .i64 2, .int .i64 3, .int .i64 4], [], [.slice (some (18, 0)) 3 3 1, .slice (some (19, 0)) 2 2 1, .slice (some (20, 0)) 1 1 1], [.int .i64 0, .int .i64 1, .int .i64 10, .int .i64 40], [], [], [.int .i64 0, .int .i64 0], [.int .i64 0, .int .i64 1, .int .i64 2], [.int .i64 5, .int .i64 3], [.int .i64 2]], .int .i64 0⟩
theorem k46 : CM.KnownOk Tryz.prog 5 rows e46 := CM.known_of (m := 1000000) (envW ok45) (by kernel_rfl) rfl
def kn46 : List CM.KE := kn45 ++ [e46]
theorem ok46 : ∀ e ∈ kn46, CM.KnownOk Tryz.prog 5 rows e := more ok45 k46
def e47 : CM.KE := ⟨25, [.ptr (some (5, 0)), .agg [.int .i64 (-1), .int .i64 0, .int .i64 0, .int .i64 0, .int .i64 0, .int .i64 2]], [[.int .i64 30, .slice (some (6, 0)) 4 4 1, .slice (some (7, 0)) 1 1 1, .slice (some (8, 0)) 0 0 0, .slice (some (9, 0)) 1 1 1, .slice (some (10, 0)) 1 1 1, .slice (some (11, 0)) 0 0 0, .slice (some (12, 0)) 1 1 3, .slice (some (13, 0)) 0 0 0, .slice (some (14, 0)) 1 1 3, .slice (some (15, 0)) 1 1 4, .slice (some (16, 0)) 0 0 0, .slice (some (17, 0)) 0 0 0, .slice (some (18, 0)) 1 1 0, .int .i64 30, .slice (some (19, 0)) 4 4 1, .slice (some (20, 0)) 2 2 7, .int .i64 0, .int .i64 0, .int .i64 0], [.str [97], .str [98], .str [99], .str [100]], [.str [112]], [], [.str [114]], [.str [116]], [], [.int .i64 2, .int .i64 3, .int .i64 4], [], [.slice (some (21, 0)) 3 3 1, .slice (some (22, 0)) 2 2 1, .slice (some (23, 0)) 1 1 1], [.int .i64 0, .int .i64 1, .int .i64 10, .int .i64 40], [], [], [.int .i64 0, .int .i64 0], [.slice none 0 0 0, .slice none 0 0 0, .slice none 0 0 0, .slice none 0 0 0], [.int .i64 2, .int .i64 3, .int .i64 4, .bool false, .int .i64 0, .slice none 0 0 0, .slice none 0 0 0, .int .i64 3, .int .i64 2, .int .i64 4, .bool false, .int .i64 0, .slice none 0 0 0, .slice none 0 0 0], [.int .i64 0, .int .i64 1, .int .i64 2], [.int .i64 5, .int .i64 3], [.int .i64 2]], .int .i64 8⟩
theorem k47 : CM.KnownOk Tryz.prog 5 rows e47 := CM.known_of (m := 1000000) (envW ok46) (by kernel_rfl) rfl
def kn47 : List CM.KE := kn46 ++ [e47]
theorem ok47 : ∀ e ∈ kn47, CM.KnownOk Tryz.prog 5 rows e := more ok46 k47
def e48 : CM.KE := ⟨157, [.slice none 0 0 0, .int .i64 11, .int .i64 1], [], .int .i64 11⟩
theorem k48 : CM.KnownOk Tryz.prog 5 rows e48 := CM.known_of (m := 1000000) (envW ok47) (by kernel_rfl) rfl
def kn48 : List CM.KE := kn47 ++ [e48]
theorem ok48 : ∀ e ∈ kn48, CM.KnownOk Tryz.prog 5 rows e := more ok47 k48
def e49 : CM.KE := ⟨157, [.slice none 0 0 0, .int .i64 11, .int .i64 4], [], .int .i64 11⟩
theorem k49 : CM.KnownOk Tryz.prog 5 rows e49 := CM.known_of (m := 1000000) (envW ok48) (by kernel_rfl) rfl
def kn49 : List CM.KE := kn48 ++ [e49]
theorem ok49 : ∀ e ∈ kn49, CM.KnownOk Tryz.prog 5 rows e := more ok48 k49
def e50 : CM.KE := ⟨63, [.agg [.int .i64 30, .slice (some (5, 0)) 4 4 1, .slice (some (6, 0)) 2 2 7], .int .i64 0, .int .i64 11], [[.slice none 0 0 0, .slice none 0 0 0, .slice none 0 0 0, .slice none 0 0 0], [.int .i64 2, .int .i64 3, .int .i64 4, .bool false, .int .i64 0, .slice none 0 0 0, .slice none 0 0 0, .int .i64 3, .int .i64 2, .int .i64 4, .bool false, .int .i64 0, .slice none 0 0 0, .slice none 0 0 0]], .tup [.int .i64 11, .int .i64 15]⟩
theorem k50 : CM.KnownOk Tryz.prog 5 rows e50 := CM.known_of (m := 1000000) (envW ok49) (by kernel_rfl) rfl
def kn50 : List CM.KE := kn49 ++ [e50]
theorem ok50 : ∀ e ∈ kn50, CM.KnownOk Tryz.prog 5 rows e := more ok49 k50
def e51 : CM.KE := ⟨8, [], [], .bool true⟩
theorem k51 : CM.KnownOk Tryz.prog 5 rows e51 := CM.known_of (m := 1000000) (envW ok50) (by kernel_rfl) rfl
def kn51 : List CM.KE := kn50 ++ [e51]
theorem ok51 : ∀ e ∈ kn51, CM.KnownOk Tryz.prog 5 rows e := more ok50 k51
def e52 : CM.KE := ⟨11, [.agg [.int .i64 30, .slice (some (5, 0)) 4 4 1, .slice (some (6, 0)) 1 1 1, .slice (some (7, 0)) 0 0 0, .slice (some (8, 0)) 1 1 1, .slice (some (9, 0)) 1 1 1, .slice (some (10, 0)) 0 0 0, .slice (some (11, 0)) 1 1 3, .slice (some (12, 0)) 0 0 0, .slice (some (13, 0)) 1 1 3, .slice (some (14, 0)) 1 1 4, .slice (some (15, 0)) 0 0 0, .slice (some (16, 0)) 0 0 0, .slice (some (17, 0)) 0 0 0], .agg [.int .i64 0, .int .i64 3, .int .i64 0, .int .i64 1], .agg [.int .i64 15, .int .i64 1], .agg [.int .i64 0, .int .i64 0, .slice (some (18, 0)) 2 2 0]], [[.str [97], .str [98], .str [99], .str [100]], [.str [112]], [], [.str [114]], [.str [116]], [], [.int .i64 2, .int .i64 3, .int .i64 4], [], [.slice (some (19, 0)) 3 3 1, .slice (some (20, 0)) 2 2 1, .slice (some (21, 0)) 1 1 1], [.int .i64 0, .int .i64 1, .int .i64 10, .int .i64 40], [], [], [], [.int .i64 (-1), .int .i64 0, .int .i64 0, .int .i64 0, .int .i64 0, .int .i64 2, .int .i64 0, .int .i64 11, .int .i64 0, .int .i64 0, .int .i64 0, .int .i64 0], [.int .i64 0, .int .i64 1, .int .i64 2], [.int .i64 5, .int .i64 3], [.int .i64 2]], .int .i64 0⟩
theorem k52 : CM.KnownOk Tryz.prog 5 rows e52 := CM.known_of (m := 1000000) (envW ok51) (by kernel_rfl) rfl
def kn52 : List CM.KE := kn51 ++ [e52]
theorem ok52 : ∀ e ∈ kn52, CM.KnownOk Tryz.prog 5 rows e := more ok51 k52
def e53 : CM.KE := ⟨11, [.agg [.int .i64 30, .slice (some (5, 0)) 4 4 1, .slice (some (6, 0)) 1 1 1, .slice (some (7, 0)) 0 0 0, .slice (some (8, 0)) 1 1 1, .slice (some (9, 0)) 1 1 1, .slice (some (10, 0)) 0 0 0, .slice (some (11, 0)) 1 1 3, .slice (some (12, 0)) 0 0 0, .slice (some (13, 0)) 1 1 3, .slice (some (14, 0)) 1 1 4, .slice (some (15, 0)) 0 0 0, .slice (some (16, 0)) 0 0 0, .slice (some (17, 0)) 0 0 0], .agg [.int .i64 0, .int .i64 3, .int .i64 0, .int .i64 1], .agg [.int .i64 15, .int .i64 0], .agg [.int .i64 0, .int .i64 0, .slice (some (18, 0)) 2 2 0]], [[.str [97], .str [98], .str [99], .str [100]], [.str [112]], [], [.str [114]], [.str [116]], [], [.int .i64 2, .int .i64 3, .int .i64 4], [], [.slice (some (19, 0)) 3 3 1, .slice (some (20, 0)) 2 2 1, .slice (some (21, 0)) 1 1 1], [.int .i64 0, .int .i64 1, .int .i64 10, .int .i64 40], [], [], [], [.int .i64 (-1), .int .i64 0, .int .i64 0, .int .i64 0, .int .i64 0, .int .i64 2, .int .i64 0, .int .i64 11, .int .i64 0, .int .i64 0, .int .i64 0, .int .i64 0], [.int .i64 0, .int .i64 1, .int .i64 2], [.int .i64 5, .int .i64 3], [.int .i64 2]], .int .i64 2⟩
theorem k53 : CM.KnownOk Tryz.prog 5 rows e53 := CM.known_of (m := 1000000) (envW ok52) (by kernel_rfl) rfl
def kn53 : List CM.KE := kn52 ++ [e53]
theorem ok53 : ∀ e ∈ kn53, CM.KnownOk Tryz.prog 5 rows e := more ok52 k53
theorem runs : (CM.run (env kn53) 1000000 (.call (.fn 3 [] []) []) .leaf (CM.memOf 5 rows)).isTrue = true := by kernel_rfl
end
end Go.Proofs.YtlapjpgfpdeknaeGreatDoor
