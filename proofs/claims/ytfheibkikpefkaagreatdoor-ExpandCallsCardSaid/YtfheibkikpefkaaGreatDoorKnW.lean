/- What the law asks first is known: the kernel runs it on the plain machine; the small environment. No condition. -/
import Derived.Test.YtfheibkikpefkaaGreatDoorCmU
import Derived.Test.YtfheibkikpefkaaGreatDoorZF
import Derived.Test.YtfheibkikpefkaaGreatDoorYE
import Derived.KernelRfl
import Derived.Test.YtfheibkikpefkaaGreatDoorCmZ
set_option linter.unusedVariables false
set_option linter.unusedSimpArgs false
namespace Go.Proofs.YtfheibkikpefkaaGreatDoor
open Go
noncomputable section
set_option maxRecDepth 1000000
namespace Kn
def fnl:List Nat:=[9,14,15,16,19,28,31,39,49,61,62,63,64,66,71,73,74,78,79,80,81,82,83,84,93,105,106,107,108,109,112,113,114,119,120,121,122,123,125,126,127,128,129,140,141,142,143,144,145,147,149,150,151,152,153,154,156,157,158,159,160,161,167,170,171,172,173,174,175,176,177,178,179,180,181,182,183,184,185,186,187,189,191,192,193,194,195,197,198,199,201,203,204,205,206,207,208,210,211,212,213,216,217,220,221,224,225,226,227,228,229,231,232,235,237,238,239]
def env (kn:List CM.KE):CM.Env:=CM.aMj Tryz.prog 324 [] 270 fnl 1 kn rows
theorem aMh:CM.aGz Tryz.prog fnl=true:=by kernel_rfl
theorem mixed:Tryz.prog.follows .mixedOrders=true:=by kernel_rfl
theorem rows_good:CM.vC 1 rows=true:=by kernel_rfl
theorem lZ {kn:List CM.KE} (h:∀e∈kn,CM.KnownOk Tryz.prog 1 rows e):CM.EnvW Tryz.prog (env kn):=CM.aQn aMh mixed rows_good h
theorem iN:∀e∈([]:List CM.KE),CM.KnownOk Tryz.prog 1 rows e:=λ_ h=>by cases h
theorem more {l:List CM.KE} {e:CM.KE} (h:∀e∈l,CM.KnownOk Tryz.prog 1 rows e) (k:CM.KnownOk Tryz.prog 1 rows e):∀x∈l++[e],CM.KnownOk Tryz.prog 1 rows x:=by
 intro x hx;rcases List.mem_append.1 hx with hx|hx
 ·exact h x hx
 ·rw[List.mem_singleton]at hx
  rw[hx];exact k
def e0:CM.KE:=⟨181,[.str [97]],[],.bool true,[]⟩
theorem k0:CM.KnownOk Tryz.prog 1 rows e0:=CM.bP (m:=1000000) (lZ iN) (by kernel_rfl)
def kn0:List CM.KE:=[]++[e0]
theorem ok0:∀e∈kn0,CM.KnownOk Tryz.prog 1 rows e:=more iN k0
def e1:CM.KE:=⟨181,[.str [98]],[],.bool true,[]⟩
theorem k1:CM.KnownOk Tryz.prog 1 rows e1:=CM.bP (m:=1000000) (lZ ok0) (by kernel_rfl)
def kn1:List CM.KE:=kn0++[e1]
theorem ok1:∀e∈kn1,CM.KnownOk Tryz.prog 1 rows e:=more ok0 k1
def e2:CM.KE:=⟨181,[.str [99]],[],.bool true,[]⟩
theorem k2:CM.KnownOk Tryz.prog 1 rows e2:=CM.bP (m:=1000000) (lZ ok1) (by kernel_rfl)
def kn2:List CM.KE:=kn1++[e2]
theorem ok2:∀e∈kn2,CM.KnownOk Tryz.prog 1 rows e:=more ok1 k2
def e3:CM.KE:=⟨181,[.str [114]],[],.bool true,[]⟩
theorem k3:CM.KnownOk Tryz.prog 1 rows e3:=CM.bP (m:=1000000) (lZ ok2) (by kernel_rfl)
def kn3:List CM.KE:=kn2++[e3]
theorem ok3:∀e∈kn3,CM.KnownOk Tryz.prog 1 rows e:=more ok2 k3
def e4:CM.KE:=⟨181,[.str [116]],[],.bool true,[]⟩
theorem k4:CM.KnownOk Tryz.prog 1 rows e4:=CM.bP (m:=1000000) (lZ ok3) (by kernel_rfl)
def kn4:List CM.KE:=kn3++[e4]
theorem ok4:∀e∈kn4,CM.KnownOk Tryz.prog 1 rows e:=more ok3 k4
def e5:CM.KE:=⟨112,[.agg [.int .i64 30,.slice (some (1,0)) 3 3 0,.slice none 0 0 0,.slice none 0 0 0,.slice (some (2,0)) 1 1 0,.slice (some (3,0)) 1 1 0,.slice none 0 0 0,.slice none 0 0 0,.slice none 0 0 0,.slice (some (4,0)) 1 1 0,.slice (some (5,0)) 1 1 0,.slice none 0 0 0]],[[.str [97],.str [98],.str [99]],[.str [114]],[.str [116]],[.slice (some (6,0)) 3 3 0,.slice (some (7,0)) 2 2 0,.slice (some (8,0)) 1 1 0],[.int .i64 0,.int .i64 1,.int .i64 10,.int .i64 40],[.int .i64 0,.int .i64 1,.int .i64 2],[.int .i64 5,.int .i64 3],[.int .i64 2]],.bool true,[]⟩
theorem k5:CM.KnownOk Tryz.prog 1 rows e5:=CM.bP (m:=1000000) (lZ ok4) (by kernel_rfl)
def kn5:List CM.KE:=kn4++[e5]
theorem ok5:∀e∈kn5,CM.KnownOk Tryz.prog 1 rows e:=more ok4 k5
def e6:CM.KE:=⟨114,[.agg [.int .i64 30,.slice (some (1,0)) 3 3 0,.slice none 0 0 0,.slice none 0 0 0,.slice (some (2,0)) 1 1 0,.slice (some (3,0)) 1 1 0,.slice none 0 0 0,.slice none 0 0 0,.slice none 0 0 0,.slice (some (4,0)) 1 1 0,.slice (some (5,0)) 1 1 0,.slice none 0 0 0]],[[.str [97],.str [98],.str [99]],[.str [114]],[.str [116]],[.slice (some (6,0)) 3 3 0,.slice (some (7,0)) 2 2 0,.slice (some (8,0)) 1 1 0],[.int .i64 0,.int .i64 1,.int .i64 10,.int .i64 40],[.int .i64 0,.int .i64 1,.int .i64 2],[.int .i64 5,.int .i64 3],[.int .i64 2]],.agg [.int .i64 30,.slice (some (9,0)) 3 3 1,.slice none 0 0 0,.slice none 0 0 0,.slice (some (10,0)) 1 1 4,.slice (some (11,0)) 1 1 5,.slice none 0 0 0],[[.str [97],.str [98],.str [99]],[.str [114],.slice (some (12,0)) 3 3 1,.slice (some (13,0)) 2 2 1,.slice (some (14,0)) 1 1 1],[.str [116],.str [114],.int .i64 1,.int .i64 10,.int .i64 40],[.str [97],.str [98],.str [99]],[.int .i64 5,.int .i64 3],[.int .i64 2]]⟩
theorem k6:CM.KnownOk Tryz.prog 1 rows e6:=CM.bP (m:=1000000) (lZ ok5) (by kernel_rfl)
def kn6:List CM.KE:=kn5++[e6]
theorem ok6:∀e∈kn6,CM.KnownOk Tryz.prog 1 rows e:=more ok5 k6
def e7:CM.KE:=⟨156,[.agg [.int .i64 30,.slice (some (1,0)) 3 3 1,.slice none 0 0 0,.slice none 0 0 0,.slice (some (2,0)) 1 1 4,.slice (some (3,0)) 1 1 5,.slice none 0 0 0]],[[.str [97],.str [98],.str [99]],[.str [114],.slice (some (4,0)) 3 3 1,.slice (some (5,0)) 2 2 1,.slice (some (6,0)) 1 1 1],[.str [116],.str [114],.int .i64 1,.int .i64 10,.int .i64 40],[.str [97],.str [98],.str [99]],[.int .i64 5,.int .i64 3],[.int .i64 2]],.int .i64 0,[]⟩
theorem k7:CM.KnownOk Tryz.prog 1 rows e7:=CM.bP (m:=1000000) (lZ ok6) (by kernel_rfl)
def kn7:List CM.KE:=kn6++[e7]
theorem ok7:∀e∈kn7,CM.KnownOk Tryz.prog 1 rows e:=more ok6 k7
def e8:CM.KE:=⟨157,[.agg [.int .i64 30,.slice (some (1,0)) 3 3 1,.slice none 0 0 0,.slice none 0 0 0,.slice (some (2,0)) 1 1 4,.slice (some (3,0)) 1 1 5,.slice none 0 0 0]],[[.str [97],.str [98],.str [99]],[.str [114],.slice (some (4,0)) 3 3 1,.slice (some (5,0)) 2 2 1,.slice (some (6,0)) 1 1 1],[.str [116],.str [114],.int .i64 1,.int .i64 10,.int .i64 40],[.str [97],.str [98],.str [99]],[.int .i64 5,.int .i64 3],[.int .i64 2]],.agg [.int .i64 30,.slice (some (7,0)) 3 3 1,.slice none 0 0 0,.slice none 0 0 0,.slice (some (8,0)) 1 1 1,.slice (some (9,0)) 1 1 1,.slice none 0 0 0,.slice none 0 0 0,.slice none 0 0 0,.slice (some (10,0)) 1 1 3,.slice (some (11,0)) 1 1 4,.slice none 0 0 0],[[.str [97],.str [98],.str [99]],[.str [114]],[.str [116]],[.slice (some (12,0)) 3 3 1,.slice (some (13,0)) 2 2 1,.slice (some (14,0)) 1 1 1],[.int .i64 0,.int .i64 1,.int .i64 10,.int .i64 40],[.int .i64 0,.int .i64 1,.int .i64 2],[.int .i64 5,.int .i64 3],[.int .i64 2]]⟩
theorem k8:CM.KnownOk Tryz.prog 1 rows e8:=CM.bP (m:=1000000) (lZ ok7) (by kernel_rfl)
def kn8:List CM.KE:=kn7++[e8]
theorem ok8:∀e∈kn8,CM.KnownOk Tryz.prog 1 rows e:=more ok7 k8
def e9:CM.KE:=⟨158,[.ptr (some (1,0))],[[.int .i64 30,.slice (some (2,0)) 3 3 1,.slice none 0 0 0,.slice none 0 0 0,.slice (some (3,0)) 1 1 1,.slice (some (4,0)) 1 1 1,.slice none 0 0 0,.slice none 0 0 0,.slice none 0 0 0,.slice (some (5,0)) 1 1 3,.slice (some (6,0)) 1 1 4,.slice none 0 0 0],[.str [97],.str [98],.str [99]],[.str [114]],[.str [116]],[.slice (some (7,0)) 3 3 1,.slice (some (8,0)) 2 2 1,.slice (some (9,0)) 1 1 1],[.int .i64 0,.int .i64 1,.int .i64 10,.int .i64 40],[.int .i64 0,.int .i64 1,.int .i64 2],[.int .i64 5,.int .i64 3],[.int .i64 2]],.agg [.int .i64 0,.int .i64 0,.int .i64 0],[]⟩
theorem k9:CM.KnownOk Tryz.prog 1 rows e9:=CM.bP (m:=1000000) (lZ ok8) (by kernel_rfl)
def kn9:List CM.KE:=kn8++[e9]
theorem ok9:∀e∈kn9,CM.KnownOk Tryz.prog 1 rows e:=more ok8 k9
def e10:CM.KE:=⟨108,[.int .i64 1,.int .i64 10,.int .i64 1],[],.tup [.int .i64 11,.int .i64 0],[]⟩
theorem k10:CM.KnownOk Tryz.prog 1 rows e10:=CM.bP (m:=1000000) (lZ ok9) (by kernel_rfl)
def aWt:List CM.KE:=kn9++[e10]
theorem aWm:∀e∈aWt,CM.KnownOk Tryz.prog 1 rows e:=more ok9 k10
def e11:CM.KE:=⟨64,[.agg [.int .i64 30,.slice (some (1,0)) 3 3 0,.slice none 0 0 0,.slice none 0 0 0,.slice (some (2,0)) 1 1 0,.slice (some (3,0)) 1 1 0,.slice none 0 0 0,.slice none 0 0 0,.slice none 0 0 0,.slice (some (4,0)) 1 1 0,.slice (some (5,0)) 1 1 0,.slice none 0 0 0],.int .i64 0,.int .i64 1],[[.str [97],.str [98],.str [99]],[.str [114]],[.str [116]],[.slice (some (6,0)) 3 3 0,.slice (some (7,0)) 2 2 0,.slice (some (8,0)) 1 1 0],[.int .i64 0,.int .i64 1,.int .i64 10,.int .i64 40],[.int .i64 0,.int .i64 1,.int .i64 2],[.int .i64 5,.int .i64 3],[.int .i64 2]],.tup [.agg [.int .i64 0,.int .i64 1,.slice (some (9,0)) 3 3 1,.slice (some (10,0)) 3 3 1],.bool true],[[.int .i64 11,.int .i64 16,.int .i64 21],[.int .i64 11,.int .i64 18,.int .i64 21]]⟩
theorem k11:CM.KnownOk Tryz.prog 1 rows e11:=CM.bP (m:=1000000) (lZ aWm) (by kernel_rfl)
def kn11:List CM.KE:=aWt++[e11]
theorem ok11:∀e∈kn11,CM.KnownOk Tryz.prog 1 rows e:=more aWm k11
theorem lives_known:CM.KnownOk Tryz.prog 1 rows aLr:=CM.bP (m:=1000000) (lZ ok11) (by kernel_rfl)
def aWy:CM.KE:=⟨31,[.agg [.int .i64 40,.slice (some (1,0)) 2 2 0,.slice (some (2,0)) 1 1 0]],[[.slice none 0 0 0,.slice none 0 0 0],[.int .i64 0,.int .i64 1,.int .i64 3,.bool true,.int .i64 0,.slice (some (3,0)) 2 2 0,.slice none 0 0 0],[.int .i64 5,.int .i64 7,.int .i64 15,.int .i64 17]],.int .i64 0,[]⟩
theorem k100:CM.KnownOk Tryz.prog 1 rows aWy:=CM.bP (m:=1000000) (lZ iN) (by kernel_rfl)
def aSk:List CM.KE:=[]++[aWy]
theorem aSg:∀e∈aSk,CM.KnownOk Tryz.prog 1 rows e:=more iN k100
def aWx:CM.KE:=⟨167,[.slice (some (1,0)) 2 2 0,.int .i64 16],[[.int .i64 5,.int .i64 7,.int .i64 15,.int .i64 17]],.int .i64 1,[]⟩
theorem k101:CM.KnownOk Tryz.prog 1 rows aWx:=CM.bP (m:=1000000) (lZ aSg) (by kernel_rfl)
def aSj:List CM.KE:=aSk++[aWx]
theorem aSf:∀e∈aSj,CM.KnownOk Tryz.prog 1 rows e:=more aSg k101
def aWw:CM.KE:=⟨123,[.slice (some (1,0)) 2 2 0,.int .i64 16],[[.int .i64 5,.int .i64 7,.int .i64 15,.int .i64 17]],.int .i64 16,[]⟩
theorem k102:CM.KnownOk Tryz.prog 1 rows aWw:=CM.bP (m:=1000000) (lZ aSf) (by kernel_rfl)
def aWs:List CM.KE:=aSj++[aWw]
theorem aWl:∀e∈aWs,CM.KnownOk Tryz.prog 1 rows e:=more aSf k102
theorem lives11_known:CM.KnownOk Tryz.prog 1 rows aCl:=CM.bP (m:=1000000) (lZ aWl) (by kernel_rfl)
theorem fields_known:CM.KnownOk Tryz.prog 1 rows aHa:=CM.bP (m:=1000000) (lZ iN) (by kernel_rfl)
theorem tys_good:∀p∈aWb,CM.tyOf Tryz.prog p.1 p.2.cmp=some p.2/\(p.2.cmp=true->CM.aMt Tryz.prog p.1=true):=by
 intro p hp;simp only[aWb,List.mem_cons,List.not_mem_nil,or_false]at hp;rcases hp with rfl|rfl|rfl|rfl|rfl|rfl|rfl|rfl|rfl|rfl|rfl|rfl|rfl|rfl|rfl|rfl|rfl|rfl|rfl|rfl|rfl|rfl|rfl|rfl|rfl|rfl|rfl|rfl|rfl|rfl|rfl|rfl|rfl|rfl|rfl|rfl|rfl|rfl|rfl|rfl|rfl|rfl|rfl|rfl|rfl|rfl|rfl|rfl|rfl|rfl|rfl|rfl|rfl|rfl|rfl|rfl|rfl|rfl|rfl|rfl|rfl|rfl|rfl|rfl|rfl|rfl|rfl|rfl|rfl|rfl|rfl|rfl|rfl|rfl|rfl|rfl|rfl|rfl|rfl|rfl|rfl|rfl|rfl|rfl|rfl|rfl|rfl|rfl|rfl|rfl|rfl|rfl|rfl|rfl|rfl|rfl|rfl|rfl
 ·exact⟨by kernel_rfl,λh=>by cases h⟩
 ·exact⟨by kernel_rfl,λh=>by cases h⟩
 ·exact⟨by kernel_rfl,λh=>by cases h⟩
 ·exact⟨by kernel_rfl,λh=>by cases h⟩
 ·exact⟨by kernel_rfl,λh=>by cases h⟩
 ·exact⟨by kernel_rfl,λh=>by cases h⟩
 ·exact⟨by kernel_rfl,λh=>by cases h⟩
 ·exact⟨by kernel_rfl,λh=>by cases h⟩
 ·exact⟨by kernel_rfl,λh=>by cases h⟩
 ·exact⟨by kernel_rfl,λh=>by cases h⟩
 ·exact⟨by kernel_rfl,λh=>by kernel_rfl⟩
 ·exact⟨by kernel_rfl,λh=>by cases h⟩
 ·exact⟨by kernel_rfl,λh=>by cases h⟩
 ·exact⟨by kernel_rfl,λh=>by cases h⟩
 ·exact⟨by kernel_rfl,λh=>by kernel_rfl⟩
 ·exact⟨by kernel_rfl,λh=>by cases h⟩
 ·exact⟨by kernel_rfl,λh=>by cases h⟩
 ·exact⟨by kernel_rfl,λh=>by cases h⟩
 ·exact⟨by kernel_rfl,λh=>by cases h⟩
 ·exact⟨by kernel_rfl,λh=>by cases h⟩
 ·exact⟨by kernel_rfl,λh=>by cases h⟩
 ·exact⟨by kernel_rfl,λh=>by cases h⟩
 ·exact⟨by kernel_rfl,λh=>by cases h⟩
 ·exact⟨by kernel_rfl,λh=>by kernel_rfl⟩
 ·exact⟨by kernel_rfl,λh=>by cases h⟩
 ·exact⟨by kernel_rfl,λh=>by cases h⟩
 ·exact⟨by kernel_rfl,λh=>by cases h⟩
 ·exact⟨by kernel_rfl,λh=>by cases h⟩
 ·exact⟨by kernel_rfl,λh=>by cases h⟩
 ·exact⟨by kernel_rfl,λh=>by cases h⟩
 ·exact⟨by kernel_rfl,λh=>by cases h⟩
 ·exact⟨by kernel_rfl,λh=>by cases h⟩
 ·exact⟨by kernel_rfl,λh=>by cases h⟩
 ·exact⟨by kernel_rfl,λh=>by kernel_rfl⟩
 ·exact⟨by kernel_rfl,λh=>by kernel_rfl⟩
 ·exact⟨by kernel_rfl,λh=>by kernel_rfl⟩
 ·exact⟨by kernel_rfl,λh=>by kernel_rfl⟩
 ·exact⟨by kernel_rfl,λh=>by kernel_rfl⟩
 ·exact⟨by kernel_rfl,λh=>by kernel_rfl⟩
 ·exact⟨by kernel_rfl,λh=>by kernel_rfl⟩
 ·exact⟨by kernel_rfl,λh=>by cases h⟩
 ·exact⟨by kernel_rfl,λh=>by cases h⟩
 ·exact⟨by kernel_rfl,λh=>by cases h⟩
 ·exact⟨by kernel_rfl,λh=>by cases h⟩
 ·exact⟨by kernel_rfl,λh=>by cases h⟩
 ·exact⟨by kernel_rfl,λh=>by cases h⟩
 ·exact⟨by kernel_rfl,λh=>by cases h⟩
 ·exact⟨by kernel_rfl,λh=>by cases h⟩
 ·exact⟨by kernel_rfl,λh=>by cases h⟩
 ·exact⟨by kernel_rfl,λh=>by cases h⟩
 ·exact⟨by kernel_rfl,λh=>by cases h⟩
 ·exact⟨by kernel_rfl,λh=>by cases h⟩
 ·exact⟨by kernel_rfl,λh=>by cases h⟩
 ·exact⟨by kernel_rfl,λh=>by cases h⟩
 ·exact⟨by kernel_rfl,λh=>by cases h⟩
 ·exact⟨by kernel_rfl,λh=>by cases h⟩
 ·exact⟨by kernel_rfl,λh=>by cases h⟩
 ·exact⟨by kernel_rfl,λh=>by cases h⟩
 ·exact⟨by kernel_rfl,λh=>by cases h⟩
 ·exact⟨by kernel_rfl,λh=>by cases h⟩
 ·exact⟨by kernel_rfl,λh=>by cases h⟩
 ·exact⟨by kernel_rfl,λh=>by cases h⟩
 ·exact⟨by kernel_rfl,λh=>by cases h⟩
 ·exact⟨by kernel_rfl,λh=>by cases h⟩
 ·exact⟨by kernel_rfl,λh=>by cases h⟩
 ·exact⟨by kernel_rfl,λh=>by cases h⟩
 ·exact⟨by kernel_rfl,λh=>by cases h⟩
 ·exact⟨by kernel_rfl,λh=>by cases h⟩
 ·exact⟨by kernel_rfl,λh=>by cases h⟩
 ·exact⟨by kernel_rfl,λh=>by cases h⟩
 ·exact⟨by kernel_rfl,λh=>by cases h⟩
 ·exact⟨by kernel_rfl,λh=>by cases h⟩
 ·exact⟨by kernel_rfl,λh=>by cases h⟩
 ·exact⟨by kernel_rfl,λh=>by cases h⟩
 ·exact⟨by kernel_rfl,λh=>by cases h⟩
 ·exact⟨by kernel_rfl,λh=>by cases h⟩
 ·exact⟨by kernel_rfl,λh=>by cases h⟩
 ·exact⟨by kernel_rfl,λh=>by cases h⟩
 ·exact⟨by kernel_rfl,λh=>by cases h⟩
 ·exact⟨by kernel_rfl,λh=>by cases h⟩
 ·exact⟨by kernel_rfl,λh=>by cases h⟩
 ·exact⟨by kernel_rfl,λh=>by cases h⟩
 ·exact⟨by kernel_rfl,λh=>by cases h⟩
 ·exact⟨by kernel_rfl,λh=>by cases h⟩
 ·exact⟨by kernel_rfl,λh=>by cases h⟩
 ·exact⟨by kernel_rfl,λh=>by cases h⟩
 ·exact⟨by kernel_rfl,λh=>by cases h⟩
 ·exact⟨by kernel_rfl,λh=>by cases h⟩
 ·exact⟨by kernel_rfl,λh=>by cases h⟩
 ·exact⟨by kernel_rfl,λh=>by cases h⟩
 ·exact⟨by kernel_rfl,λh=>by cases h⟩
 ·exact⟨by kernel_rfl,λh=>by cases h⟩
 ·exact⟨by kernel_rfl,λh=>by cases h⟩
 ·exact⟨by kernel_rfl,λh=>by cases h⟩
 ·exact⟨by kernel_rfl,λh=>by cases h⟩
 ·exact⟨by kernel_rfl,λh=>by cases h⟩
 ·exact⟨by kernel_rfl,λh=>by cases h⟩
 ·exact⟨by kernel_rfl,λh=>by cases h⟩
theorem fns_small:∀p∈aUp,∃fn,Tryz.prog.funcs[p.1]? =some fn/\p.2=CM.aB fn/\CM.lO fn=true:=by
 intro p hp;simp only[aUp,List.mem_cons,List.not_mem_nil,or_false]at hp;rcases hp with rfl|rfl|rfl|rfl|rfl|rfl|rfl|rfl|rfl|rfl|rfl|rfl|rfl|rfl|rfl|rfl|rfl|rfl|rfl|rfl|rfl|rfl|rfl|rfl|rfl|rfl|rfl|rfl|rfl|rfl|rfl|rfl|rfl|rfl|rfl|rfl|rfl|rfl|rfl|rfl|rfl|rfl|rfl|rfl|rfl|rfl|rfl|rfl|rfl|rfl|rfl|rfl|rfl|rfl|rfl|rfl|rfl|rfl|rfl|rfl|rfl|rfl|rfl|rfl|rfl|rfl|rfl|rfl|rfl|rfl|rfl|rfl|rfl|rfl|rfl|rfl|rfl|rfl|rfl|rfl|rfl|rfl|rfl|rfl|rfl|rfl|rfl|rfl|rfl|rfl|rfl|rfl|rfl|rfl|rfl|rfl|rfl|rfl|rfl|rfl|rfl|rfl|rfl|rfl|rfl|rfl|rfl|rfl|rfl|rfl|rfl|rfl|rfl|rfl|rfl|rfl|rfl|rfl|rfl|rfl|rfl|rfl|rfl|rfl|rfl|rfl|rfl|rfl|rfl|rfl|rfl|rfl|rfl|rfl|rfl|rfl|rfl|rfl|rfl|rfl|rfl|rfl|rfl|rfl|rfl|rfl|rfl|rfl|rfl|rfl|rfl|rfl|rfl|rfl|rfl|rfl|rfl|rfl|rfl|rfl|rfl|rfl|rfl|rfl|rfl|rfl|rfl|rfl|rfl|rfl|rfl|rfl|rfl|rfl|rfl|rfl|rfl|rfl|rfl|rfl|rfl|rfl|rfl|rfl|rfl|rfl|rfl|rfl|rfl|rfl|rfl|rfl|rfl|rfl|rfl|rfl|rfl|rfl|rfl|rfl|rfl|rfl|rfl|rfl|rfl|rfl|rfl|rfl|rfl|rfl|rfl|rfl|rfl|rfl|rfl|rfl|rfl|rfl|rfl|rfl|rfl|rfl|rfl|rfl|rfl|rfl|rfl|rfl|rfl|rfl|rfl|rfl|rfl
 ·exact⟨Tryz.f3,Tryz.func3,rfl,by kernel_rfl⟩
 ·exact⟨Tryz.f4,Tryz.func4,rfl,by kernel_rfl⟩
 ·exact⟨Tryz.f5,Tryz.func5,rfl,by kernel_rfl⟩
 ·exact⟨Tryz.f6,Tryz.func6,rfl,by kernel_rfl⟩
 ·exact⟨Tryz.f7,Tryz.func7,rfl,by kernel_rfl⟩
 ·exact⟨Tryz.f8,Tryz.func8,rfl,by kernel_rfl⟩
 ·exact⟨Tryz.f10,Tryz.func10,rfl,by kernel_rfl⟩
 ·exact⟨Tryz.f11,Tryz.func11,rfl,by kernel_rfl⟩
 ·exact⟨Tryz.f12,Tryz.func12,rfl,by kernel_rfl⟩
 ·exact⟨Tryz.f13,Tryz.func13,rfl,by kernel_rfl⟩
 ·exact⟨Tryz.f14,Tryz.func14,rfl,by kernel_rfl⟩
 ·exact⟨Tryz.f15,Tryz.func15,rfl,by kernel_rfl⟩
 ·exact⟨Tryz.f16,Tryz.func16,rfl,by kernel_rfl⟩
 ·exact⟨Tryz.f17,Tryz.func17,rfl,by kernel_rfl⟩
 ·exact⟨Tryz.f18,Tryz.func18,rfl,by kernel_rfl⟩
 ·exact⟨Tryz.f19,Tryz.func19,rfl,by kernel_rfl⟩
 ·exact⟨Tryz.f20,Tryz.func20,rfl,by kernel_rfl⟩
 ·exact⟨Tryz.f21,Tryz.func21,rfl,by kernel_rfl⟩
 ·exact⟨Tryz.f22,Tryz.func22,rfl,by kernel_rfl⟩
 ·exact⟨Tryz.f23,Tryz.func23,rfl,by kernel_rfl⟩
 ·exact⟨Tryz.f24,Tryz.func24,rfl,by kernel_rfl⟩
 ·exact⟨Tryz.f25,Tryz.func25,rfl,by kernel_rfl⟩
 ·exact⟨Tryz.f26,Tryz.func26,rfl,by kernel_rfl⟩
 ·exact⟨Tryz.f27,Tryz.func27,rfl,by kernel_rfl⟩
 ·exact⟨Tryz.f29,Tryz.func29,rfl,by kernel_rfl⟩
 ·exact⟨Tryz.f30,Tryz.func30,rfl,by kernel_rfl⟩
 ·exact⟨Tryz.f31,Tryz.func31,rfl,by kernel_rfl⟩
 ·exact⟨Tryz.f32,Tryz.func32,rfl,by kernel_rfl⟩
 ·exact⟨Tryz.f33,Tryz.func33,rfl,by kernel_rfl⟩
 ·exact⟨Tryz.f34,Tryz.func34,rfl,by kernel_rfl⟩
 ·exact⟨Tryz.f35,Tryz.func35,rfl,by kernel_rfl⟩
 ·exact⟨Tryz.f36,Tryz.func36,rfl,by kernel_rfl⟩
 ·exact⟨Tryz.f37,Tryz.func37,rfl,by kernel_rfl⟩
 ·exact⟨Tryz.f38,Tryz.func38,rfl,by kernel_rfl⟩
 ·exact⟨Tryz.f39,Tryz.func39,rfl,by kernel_rfl⟩
 ·exact⟨Tryz.f40,Tryz.func40,rfl,by kernel_rfl⟩
 ·exact⟨Tryz.f41,Tryz.func41,rfl,by kernel_rfl⟩
 ·exact⟨Tryz.f42,Tryz.func42,rfl,by kernel_rfl⟩
 ·exact⟨Tryz.f43,Tryz.func43,rfl,by kernel_rfl⟩
 ·exact⟨Tryz.f44,Tryz.func44,rfl,by kernel_rfl⟩
 ·exact⟨Tryz.f45,Tryz.func45,rfl,by kernel_rfl⟩
 ·exact⟨Tryz.f46,Tryz.func46,rfl,by kernel_rfl⟩
 ·exact⟨Tryz.f47,Tryz.func47,rfl,by kernel_rfl⟩
 ·exact⟨Tryz.f48,Tryz.func48,rfl,by kernel_rfl⟩
 ·exact⟨Tryz.f50,Tryz.func50,rfl,by kernel_rfl⟩
 ·exact⟨Tryz.f51,Tryz.func51,rfl,by kernel_rfl⟩
 ·exact⟨Tryz.f52,Tryz.func52,rfl,by kernel_rfl⟩
 ·exact⟨Tryz.f53,Tryz.func53,rfl,by kernel_rfl⟩
 ·exact⟨Tryz.f54,Tryz.func54,rfl,by kernel_rfl⟩
 ·exact⟨Tryz.f55,Tryz.func55,rfl,by kernel_rfl⟩
 ·exact⟨Tryz.f56,Tryz.func56,rfl,by kernel_rfl⟩
 ·exact⟨Tryz.f57,Tryz.func57,rfl,by kernel_rfl⟩
 ·exact⟨Tryz.f58,Tryz.func58,rfl,by kernel_rfl⟩
 ·exact⟨Tryz.f59,Tryz.func59,rfl,by kernel_rfl⟩
 ·exact⟨Tryz.f60,Tryz.func60,rfl,by kernel_rfl⟩
 ·exact⟨Tryz.f61,Tryz.func61,rfl,by kernel_rfl⟩
 ·exact⟨Tryz.f62,Tryz.func62,rfl,by kernel_rfl⟩
 ·exact⟨Tryz.f63,Tryz.func63,rfl,by kernel_rfl⟩
 ·exact⟨Tryz.f64,Tryz.func64,rfl,by kernel_rfl⟩
 ·exact⟨Tryz.f65,Tryz.func65,rfl,by kernel_rfl⟩
 ·exact⟨Tryz.f66,Tryz.func66,rfl,by kernel_rfl⟩
 ·exact⟨Tryz.f67,Tryz.func67,rfl,by kernel_rfl⟩
 ·exact⟨Tryz.f68,Tryz.func68,rfl,by kernel_rfl⟩
 ·exact⟨Tryz.f69,Tryz.func69,rfl,by kernel_rfl⟩
 ·exact⟨Tryz.f70,Tryz.func70,rfl,by kernel_rfl⟩
 ·exact⟨Tryz.f71,Tryz.func71,rfl,by kernel_rfl⟩
 ·exact⟨Tryz.f72,Tryz.func72,rfl,by kernel_rfl⟩
 ·exact⟨Tryz.f74,Tryz.func74,rfl,by kernel_rfl⟩
 ·exact⟨Tryz.f75,Tryz.func75,rfl,by kernel_rfl⟩
 ·exact⟨Tryz.f76,Tryz.func76,rfl,by kernel_rfl⟩
 ·exact⟨Tryz.f77,Tryz.func77,rfl,by kernel_rfl⟩
 ·exact⟨Tryz.f78,Tryz.func78,rfl,by kernel_rfl⟩
 ·exact⟨Tryz.f79,Tryz.func79,rfl,by kernel_rfl⟩
 ·exact⟨Tryz.f80,Tryz.func80,rfl,by kernel_rfl⟩
 ·exact⟨Tryz.f81,Tryz.func81,rfl,by kernel_rfl⟩
 ·exact⟨Tryz.f82,Tryz.func82,rfl,by kernel_rfl⟩
 ·exact⟨Tryz.f83,Tryz.func83,rfl,by kernel_rfl⟩
 ·exact⟨Tryz.f84,Tryz.func84,rfl,by kernel_rfl⟩
 ·exact⟨Tryz.f85,Tryz.func85,rfl,by kernel_rfl⟩
 ·exact⟨Tryz.f86,Tryz.func86,rfl,by kernel_rfl⟩
 ·exact⟨Tryz.f87,Tryz.func87,rfl,by kernel_rfl⟩
 ·exact⟨Tryz.f88,Tryz.func88,rfl,by kernel_rfl⟩
 ·exact⟨Tryz.f89,Tryz.func89,rfl,by kernel_rfl⟩
 ·exact⟨Tryz.f90,Tryz.func90,rfl,by kernel_rfl⟩
 ·exact⟨Tryz.f91,Tryz.func91,rfl,by kernel_rfl⟩
 ·exact⟨Tryz.f92,Tryz.func92,rfl,by kernel_rfl⟩
 ·exact⟨Tryz.f93,Tryz.func93,rfl,by kernel_rfl⟩
 ·exact⟨Tryz.f94,Tryz.func94,rfl,by kernel_rfl⟩
 ·exact⟨Tryz.f95,Tryz.func95,rfl,by kernel_rfl⟩
 ·exact⟨Tryz.f96,Tryz.func96,rfl,by kernel_rfl⟩
 ·exact⟨Tryz.f97,Tryz.func97,rfl,by kernel_rfl⟩
 ·exact⟨Tryz.f98,Tryz.func98,rfl,by kernel_rfl⟩
 ·exact⟨Tryz.f99,Tryz.func99,rfl,by kernel_rfl⟩
 ·exact⟨Tryz.f100,Tryz.func100,rfl,by kernel_rfl⟩
 ·exact⟨Tryz.f101,Tryz.func101,rfl,by kernel_rfl⟩
 ·exact⟨Tryz.f102,Tryz.func102,rfl,by kernel_rfl⟩
 ·exact⟨Tryz.f103,Tryz.func103,rfl,by kernel_rfl⟩
 ·exact⟨Tryz.f104,Tryz.func104,rfl,by kernel_rfl⟩
 ·exact⟨Tryz.f105,Tryz.func105,rfl,by kernel_rfl⟩
 ·exact⟨Tryz.f106,Tryz.func106,rfl,by kernel_rfl⟩
 ·exact⟨Tryz.f107,Tryz.func107,rfl,by kernel_rfl⟩
 ·exact⟨Tryz.f108,Tryz.func108,rfl,by kernel_rfl⟩
 ·exact⟨Tryz.f109,Tryz.func109,rfl,by kernel_rfl⟩
 ·exact⟨Tryz.f110,Tryz.func110,rfl,by kernel_rfl⟩
 ·exact⟨Tryz.f111,Tryz.func111,rfl,by kernel_rfl⟩
 ·exact⟨Tryz.f112,Tryz.func112,rfl,by kernel_rfl⟩
 ·exact⟨Tryz.f113,Tryz.func113,rfl,by kernel_rfl⟩
 ·exact⟨Tryz.f114,Tryz.func114,rfl,by kernel_rfl⟩
 ·exact⟨Tryz.f115,Tryz.func115,rfl,by kernel_rfl⟩
 ·exact⟨Tryz.f116,Tryz.func116,rfl,by kernel_rfl⟩
 ·exact⟨Tryz.f117,Tryz.func117,rfl,by kernel_rfl⟩
 ·exact⟨Tryz.f118,Tryz.func118,rfl,by kernel_rfl⟩
 ·exact⟨Tryz.f119,Tryz.func119,rfl,by kernel_rfl⟩
 ·exact⟨Tryz.f120,Tryz.func120,rfl,by kernel_rfl⟩
 ·exact⟨Tryz.f121,Tryz.func121,rfl,by kernel_rfl⟩
 ·exact⟨Tryz.f122,Tryz.func122,rfl,by kernel_rfl⟩
 ·exact⟨Tryz.f123,Tryz.func123,rfl,by kernel_rfl⟩
 ·exact⟨Tryz.f124,Tryz.func124,rfl,by kernel_rfl⟩
 ·exact⟨Tryz.f125,Tryz.func125,rfl,by kernel_rfl⟩
 ·exact⟨Tryz.f126,Tryz.func126,rfl,by kernel_rfl⟩
 ·exact⟨Tryz.f127,Tryz.func127,rfl,by kernel_rfl⟩
 ·exact⟨Tryz.f128,Tryz.func128,rfl,by kernel_rfl⟩
 ·exact⟨Tryz.f129,Tryz.func129,rfl,by kernel_rfl⟩
 ·exact⟨Tryz.f130,Tryz.func130,rfl,by kernel_rfl⟩
 ·exact⟨Tryz.f131,Tryz.func131,rfl,by kernel_rfl⟩
 ·exact⟨Tryz.f132,Tryz.func132,rfl,by kernel_rfl⟩
 ·exact⟨Tryz.f133,Tryz.func133,rfl,by kernel_rfl⟩
 ·exact⟨Tryz.f134,Tryz.func134,rfl,by kernel_rfl⟩
 ·exact⟨Tryz.f135,Tryz.func135,rfl,by kernel_rfl⟩
 ·exact⟨Tryz.f136,Tryz.func136,rfl,by kernel_rfl⟩
 ·exact⟨Tryz.f137,Tryz.func137,rfl,by kernel_rfl⟩
 ·exact⟨Tryz.f138,Tryz.func138,rfl,by kernel_rfl⟩
 ·exact⟨Tryz.f139,Tryz.func139,rfl,by kernel_rfl⟩
 ·exact⟨Tryz.f140,Tryz.func140,rfl,by kernel_rfl⟩
 ·exact⟨Tryz.f141,Tryz.func141,rfl,by kernel_rfl⟩
 ·exact⟨Tryz.f142,Tryz.func142,rfl,by kernel_rfl⟩
 ·exact⟨Tryz.f143,Tryz.func143,rfl,by kernel_rfl⟩
 ·exact⟨Tryz.f144,Tryz.func144,rfl,by kernel_rfl⟩
 ·exact⟨Tryz.f145,Tryz.func145,rfl,by kernel_rfl⟩
 ·exact⟨Tryz.f146,Tryz.func146,rfl,by kernel_rfl⟩
 ·exact⟨Tryz.f147,Tryz.func147,rfl,by kernel_rfl⟩
 ·exact⟨Tryz.f148,Tryz.func148,rfl,by kernel_rfl⟩
 ·exact⟨Tryz.f149,Tryz.func149,rfl,by kernel_rfl⟩
 ·exact⟨Tryz.f150,Tryz.func150,rfl,by kernel_rfl⟩
 ·exact⟨Tryz.f151,Tryz.func151,rfl,by kernel_rfl⟩
 ·exact⟨Tryz.f152,Tryz.func152,rfl,by kernel_rfl⟩
 ·exact⟨Tryz.f153,Tryz.func153,rfl,by kernel_rfl⟩
 ·exact⟨Tryz.f154,Tryz.func154,rfl,by kernel_rfl⟩
 ·exact⟨Tryz.f155,Tryz.func155,rfl,by kernel_rfl⟩
 ·exact⟨Tryz.f156,Tryz.func156,rfl,by kernel_rfl⟩
 ·exact⟨Tryz.f157,Tryz.func157,rfl,by kernel_rfl⟩
 ·exact⟨Tryz.f158,Tryz.func158,rfl,by kernel_rfl⟩
 ·exact⟨Tryz.f159,Tryz.func159,rfl,by kernel_rfl⟩
 ·exact⟨Tryz.f160,Tryz.func160,rfl,by kernel_rfl⟩
 ·exact⟨Tryz.f161,Tryz.func161,rfl,by kernel_rfl⟩
 ·exact⟨Tryz.f162,Tryz.func162,rfl,by kernel_rfl⟩
 ·exact⟨Tryz.f163,Tryz.func163,rfl,by kernel_rfl⟩
 ·exact⟨Tryz.f164,Tryz.func164,rfl,by kernel_rfl⟩
 ·exact⟨Tryz.f165,Tryz.func165,rfl,by kernel_rfl⟩
 ·exact⟨Tryz.f166,Tryz.func166,rfl,by kernel_rfl⟩
 ·exact⟨Tryz.f167,Tryz.func167,rfl,by kernel_rfl⟩
 ·exact⟨Tryz.f168,Tryz.func168,rfl,by kernel_rfl⟩
 ·exact⟨Tryz.f169,Tryz.func169,rfl,by kernel_rfl⟩
 ·exact⟨Tryz.f170,Tryz.func170,rfl,by kernel_rfl⟩
 ·exact⟨Tryz.f171,Tryz.func171,rfl,by kernel_rfl⟩
 ·exact⟨Tryz.f172,Tryz.func172,rfl,by kernel_rfl⟩
 ·exact⟨Tryz.f173,Tryz.func173,rfl,by kernel_rfl⟩
 ·exact⟨Tryz.f174,Tryz.func174,rfl,by kernel_rfl⟩
 ·exact⟨Tryz.f175,Tryz.func175,rfl,by kernel_rfl⟩
 ·exact⟨Tryz.f176,Tryz.func176,rfl,by kernel_rfl⟩
 ·exact⟨Tryz.f177,Tryz.func177,rfl,by kernel_rfl⟩
 ·exact⟨Tryz.f178,Tryz.func178,rfl,by kernel_rfl⟩
 ·exact⟨Tryz.f179,Tryz.func179,rfl,by kernel_rfl⟩
 ·exact⟨Tryz.f180,Tryz.func180,rfl,by kernel_rfl⟩
 ·exact⟨Tryz.f181,Tryz.func181,rfl,by kernel_rfl⟩
 ·exact⟨Tryz.f182,Tryz.func182,rfl,by kernel_rfl⟩
 ·exact⟨Tryz.f183,Tryz.func183,rfl,by kernel_rfl⟩
 ·exact⟨Tryz.f184,Tryz.func184,rfl,by kernel_rfl⟩
 ·exact⟨Tryz.f185,Tryz.func185,rfl,by kernel_rfl⟩
 ·exact⟨Tryz.f186,Tryz.func186,rfl,by kernel_rfl⟩
 ·exact⟨Tryz.f187,Tryz.func187,rfl,by kernel_rfl⟩
 ·exact⟨Tryz.f188,Tryz.func188,rfl,by kernel_rfl⟩
 ·exact⟨Tryz.f189,Tryz.func189,rfl,by kernel_rfl⟩
 ·exact⟨Tryz.f190,Tryz.func190,rfl,by kernel_rfl⟩
 ·exact⟨Tryz.f191,Tryz.func191,rfl,by kernel_rfl⟩
 ·exact⟨Tryz.f192,Tryz.func192,rfl,by kernel_rfl⟩
 ·exact⟨Tryz.f193,Tryz.func193,rfl,by kernel_rfl⟩
 ·exact⟨Tryz.f194,Tryz.func194,rfl,by kernel_rfl⟩
 ·exact⟨Tryz.f195,Tryz.func195,rfl,by kernel_rfl⟩
 ·exact⟨Tryz.f196,Tryz.func196,rfl,by kernel_rfl⟩
 ·exact⟨Tryz.f197,Tryz.func197,rfl,by kernel_rfl⟩
 ·exact⟨Tryz.f198,Tryz.func198,rfl,by kernel_rfl⟩
 ·exact⟨Tryz.f199,Tryz.func199,rfl,by kernel_rfl⟩
 ·exact⟨Tryz.f200,Tryz.func200,rfl,by kernel_rfl⟩
 ·exact⟨Tryz.f201,Tryz.func201,rfl,by kernel_rfl⟩
 ·exact⟨Tryz.f202,Tryz.func202,rfl,by kernel_rfl⟩
 ·exact⟨Tryz.f203,Tryz.func203,rfl,by kernel_rfl⟩
 ·exact⟨Tryz.f204,Tryz.func204,rfl,by kernel_rfl⟩
 ·exact⟨Tryz.f205,Tryz.func205,rfl,by kernel_rfl⟩
 ·exact⟨Tryz.f206,Tryz.func206,rfl,by kernel_rfl⟩
 ·exact⟨Tryz.f207,Tryz.func207,rfl,by kernel_rfl⟩
 ·exact⟨Tryz.f208,Tryz.func208,rfl,by kernel_rfl⟩
 ·exact⟨Tryz.f209,Tryz.func209,rfl,by kernel_rfl⟩
 ·exact⟨Tryz.f210,Tryz.func210,rfl,by kernel_rfl⟩
 ·exact⟨Tryz.f211,Tryz.func211,rfl,by kernel_rfl⟩
 ·exact⟨Tryz.f212,Tryz.func212,rfl,by kernel_rfl⟩
 ·exact⟨Tryz.f213,Tryz.func213,rfl,by kernel_rfl⟩
 ·exact⟨Tryz.f214,Tryz.func214,rfl,by kernel_rfl⟩
 ·exact⟨Tryz.f215,Tryz.func215,rfl,by kernel_rfl⟩
 ·exact⟨Tryz.f216,Tryz.func216,rfl,by kernel_rfl⟩
 ·exact⟨Tryz.f217,Tryz.func217,rfl,by kernel_rfl⟩
 ·exact⟨Tryz.f218,Tryz.func218,rfl,by kernel_rfl⟩
 ·exact⟨Tryz.f219,Tryz.func219,rfl,by kernel_rfl⟩
 ·exact⟨Tryz.f220,Tryz.func220,rfl,by kernel_rfl⟩
 ·exact⟨Tryz.f221,Tryz.func221,rfl,by kernel_rfl⟩
 ·exact⟨Tryz.f222,Tryz.func222,rfl,by kernel_rfl⟩
 ·exact⟨Tryz.f223,Tryz.func223,rfl,by kernel_rfl⟩
 ·exact⟨Tryz.f224,Tryz.func224,rfl,by kernel_rfl⟩
 ·exact⟨Tryz.f225,Tryz.func225,rfl,by kernel_rfl⟩
 ·exact⟨Tryz.f226,Tryz.func226,rfl,by kernel_rfl⟩
 ·exact⟨Tryz.f227,Tryz.func227,rfl,by kernel_rfl⟩
 ·exact⟨Tryz.f228,Tryz.func228,rfl,by kernel_rfl⟩
 ·exact⟨Tryz.f229,Tryz.func229,rfl,by kernel_rfl⟩
 ·exact⟨Tryz.f230,Tryz.func230,rfl,by kernel_rfl⟩
 ·exact⟨Tryz.f231,Tryz.func231,rfl,by kernel_rfl⟩
 ·exact⟨Tryz.f232,Tryz.func232,rfl,by kernel_rfl⟩
 ·exact⟨Tryz.f233,Tryz.func233,rfl,by kernel_rfl⟩
 ·exact⟨Tryz.f234,Tryz.func234,rfl,by kernel_rfl⟩
 ·exact⟨Tryz.f235,Tryz.func235,rfl,by kernel_rfl⟩
 ·exact⟨Tryz.f236,Tryz.func236,rfl,by kernel_rfl⟩
 ·exact⟨Tryz.f237,Tryz.func237,rfl,by kernel_rfl⟩
 ·exact⟨Tryz.f239,Tryz.func239,rfl,by kernel_rfl⟩
 ·exact⟨Tryz.f260,Tryz.func260,rfl,by kernel_rfl⟩
end Kn
theorem aWv:CM.EnvW Tryz.prog E1:=CM.aDc Kn.tys_good Kn.fns_small Kn.mixed Kn.rows_good (λe he=>by
 simp only[known,List.mem_cons,List.not_mem_nil,or_false]at he;rcases he with rfl|rfl|rfl
 ·exact Kn.lives_known
 ·exact Kn.lives11_known
 ·exact Kn.fields_known)
end
end Go.Proofs.YtfheibkikpefkaaGreatDoor

namespace Go.Proofs.YtfheibkikpefkaaGreatDoor
open Go Go.CM Go.CM.Tt
noncomputable section
set_option maxRecDepth 100000
theorem aGj:∀r∈rows,r.1<qU:=by
 intro r hr;have hr:r∈[(0,ascii.map (CM.CV.int .u8))]:=hr;rw[List.mem_singleton]at hr;rw[hr];decide
theorem aMf (blks:List (List CV)):Fresh (heapOf qU rows blks):=λk hk=>by
 rw[mW]at hk;cases hg:(heapOf qU rows blks).get k with
 |none=>rfl
 |some b=>
  rcases gF hg with⟨n,cs,rfl,hn,_⟩|⟨cs,hm,_⟩
  ·have:=(List.getElem?_eq_some_iff.1 hn).1
   omega
  ·have:=aGj _ hm
   simp only at this;omega
theorem aWj (blks:List (List CV)):RH (heapOf qU rows blks):=⟨aPb (by decide) (by kernel_rfl),λr hr=>by
 rw[mW];have:=aGj r hr;omega⟩
end
end Go.Proofs.YtfheibkikpefkaaGreatDoor
