/- What the law asks first is known: the kernel runs it on the plain machine; the small environment. No condition. -/
import Derived.Test.YtmgpjfnlciapkaaGreatDoorCmV
import Derived.Test.YtmgpjfnlciapkaaGreatDoorST
import Derived.Test.YtmgpjfnlciapkaaGreatDoorYA
import Derived.KernelRfl
import Derived.Test.YtmgpjfnlciapkaaGreatDoorYC
import Derived.Test.YtmgpjfnlciapkaaGreatDoorCmZ
set_option linter.unusedVariables false
set_option linter.unusedSimpArgs false
namespace Go.Proofs.YtmgpjfnlciapkaaGreatDoor
open Go
noncomputable section
set_option maxRecDepth 1000000
namespace Kn
def fnl:List Nat:=[6,8,22,24,25,26,27,28,73,74,75,76,77,78,79,80,81,83,84,85,86,88,90,92,93,94,95,96,97,99,103,105,106,107,108,109,110,114,115,140,141,142,143,144,145,146,147,148,149,150,161,162,163,172,173,174,175,178]
def env (kn:List CM.KE):CM.Env:=CM.envOf Tryz.prog 265 [43] 206 fnl 1 kn rows
theorem fns_good:CM.fnsGood Tryz.prog fnl=true:=by kernel_rfl
theorem mixed:Tryz.prog.follows .mixedOrders=true:=by kernel_rfl
theorem rows_good:CM.rowsGood 1 rows=true:=by kernel_rfl
theorem envW {kn:List CM.KE} (h:∀e∈kn,CM.KnownOk Tryz.prog 1 rows e):CM.EnvW Tryz.prog (env kn):=CM.envW_of fns_good mixed rows_good h
theorem none_known:∀e∈([]:List CM.KE),CM.KnownOk Tryz.prog 1 rows e:=λ_ h=>by cases h
theorem more {l:List CM.KE} {e:CM.KE} (h:∀e∈l,CM.KnownOk Tryz.prog 1 rows e) (k:CM.KnownOk Tryz.prog 1 rows e):∀x∈l++[e],CM.KnownOk Tryz.prog 1 rows x:=by
 intro x hx;rcases List.mem_append.1 hx with hx|hx
 ·exact h x hx
 ·rw[List.mem_singleton]at hx
  rw[hx];exact k
def e0:CM.KE:=⟨76,[.str [97]],[],.bool true,[]⟩
theorem k0:CM.KnownOk Tryz.prog 1 rows e0:=CM.known_of (m:=1000000) (envW none_known) (by kernel_rfl)
def kn0:List CM.KE:=[]++[e0]
theorem ok0:∀e∈kn0,CM.KnownOk Tryz.prog 1 rows e:=more none_known k0
def e1:CM.KE:=⟨76,[.str [98]],[],.bool true,[]⟩
theorem k1:CM.KnownOk Tryz.prog 1 rows e1:=CM.known_of (m:=1000000) (envW ok0) (by kernel_rfl)
def kn1:List CM.KE:=kn0++[e1]
theorem ok1:∀e∈kn1,CM.KnownOk Tryz.prog 1 rows e:=more ok0 k1
def e2:CM.KE:=⟨76,[.str [112]],[],.bool true,[]⟩
theorem k2:CM.KnownOk Tryz.prog 1 rows e2:=CM.known_of (m:=1000000) (envW ok1) (by kernel_rfl)
def kn2:List CM.KE:=kn1++[e2]
theorem ok2:∀e∈kn2,CM.KnownOk Tryz.prog 1 rows e:=more ok1 k2
def e3:CM.KE:=⟨76,[.str [104]],[],.bool true,[]⟩
theorem k3:CM.KnownOk Tryz.prog 1 rows e3:=CM.known_of (m:=1000000) (envW ok2) (by kernel_rfl)
def kn3:List CM.KE:=kn2++[e3]
theorem ok3:∀e∈kn3,CM.KnownOk Tryz.prog 1 rows e:=more ok2 k3
def e4:CM.KE:=⟨76,[.str [110,111,98,111,100,121]],[],.bool true,[]⟩
theorem k4:CM.KnownOk Tryz.prog 1 rows e4:=CM.known_of (m:=1000000) (envW ok3) (by kernel_rfl)
def kn4:List CM.KE:=kn3++[e4]
theorem ok4:∀e∈kn4,CM.KnownOk Tryz.prog 1 rows e:=more ok3 k4
theorem lives_known:CM.KnownOk Tryz.prog 1 rows livesE:=CM.known_of (m:=1000000) (envW ok4) (by kernel_rfl)
theorem fields_known:CM.KnownOk Tryz.prog 1 rows fieldsE:=CM.known_of (m:=1000000) (envW none_known) (by kernel_rfl)
theorem tys_good:∀p∈tyL,CM.tyOf Tryz.prog p.1 p.2.cmp=some p.2/\(p.2.cmp=true->CM.cmpB Tryz.prog p.1=true):=by
 intro p hp;simp only[tyL,List.mem_cons,List.not_mem_nil,or_false]at hp;rcases hp with rfl|rfl|rfl|rfl|rfl|rfl|rfl|rfl|rfl|rfl|rfl|rfl|rfl|rfl|rfl|rfl|rfl|rfl|rfl|rfl|rfl|rfl|rfl|rfl|rfl|rfl|rfl|rfl|rfl|rfl|rfl|rfl|rfl|rfl|rfl|rfl|rfl|rfl|rfl|rfl|rfl|rfl|rfl|rfl|rfl|rfl|rfl|rfl|rfl|rfl|rfl|rfl|rfl|rfl|rfl|rfl|rfl|rfl|rfl|rfl|rfl|rfl|rfl|rfl|rfl|rfl|rfl|rfl|rfl|rfl|rfl|rfl|rfl|rfl|rfl
 ·exact⟨by kernel_rfl,λh=>by cases h⟩
 ·exact⟨by kernel_rfl,λh=>by cases h⟩
 ·exact⟨by kernel_rfl,λh=>by cases h⟩
 ·exact⟨by kernel_rfl,λh=>by cases h⟩
 ·exact⟨by kernel_rfl,λh=>by cases h⟩
 ·exact⟨by kernel_rfl,λh=>by cases h⟩
 ·exact⟨by kernel_rfl,λh=>by cases h⟩
 ·exact⟨by kernel_rfl,λh=>by cases h⟩
 ·exact⟨by kernel_rfl,λh=>by cases h⟩
 ·exact⟨by kernel_rfl,λh=>by cases h⟩
 ·exact⟨by kernel_rfl,λh=>by cases h⟩
 ·exact⟨by kernel_rfl,λh=>by cases h⟩
 ·exact⟨by kernel_rfl,λh=>by cases h⟩
 ·exact⟨by kernel_rfl,λh=>by cases h⟩
 ·exact⟨by kernel_rfl,λh=>by cases h⟩
 ·exact⟨by kernel_rfl,λh=>by cases h⟩
 ·exact⟨by kernel_rfl,λh=>by cases h⟩
 ·exact⟨by kernel_rfl,λh=>by kernel_rfl⟩
 ·exact⟨by kernel_rfl,λh=>by cases h⟩
 ·exact⟨by kernel_rfl,λh=>by cases h⟩
 ·exact⟨by kernel_rfl,λh=>by cases h⟩
 ·exact⟨by kernel_rfl,λh=>by cases h⟩
 ·exact⟨by kernel_rfl,λh=>by cases h⟩
 ·exact⟨by kernel_rfl,λh=>by kernel_rfl⟩
 ·exact⟨by kernel_rfl,λh=>by cases h⟩
 ·exact⟨by kernel_rfl,λh=>by kernel_rfl⟩
 ·exact⟨by kernel_rfl,λh=>by kernel_rfl⟩
 ·exact⟨by kernel_rfl,λh=>by kernel_rfl⟩
 ·exact⟨by kernel_rfl,λh=>by kernel_rfl⟩
 ·exact⟨by kernel_rfl,λh=>by kernel_rfl⟩
 ·exact⟨by kernel_rfl,λh=>by kernel_rfl⟩
 ·exact⟨by kernel_rfl,λh=>by kernel_rfl⟩
 ·exact⟨by kernel_rfl,λh=>by kernel_rfl⟩
 ·exact⟨by kernel_rfl,λh=>by cases h⟩
 ·exact⟨by kernel_rfl,λh=>by cases h⟩
 ·exact⟨by kernel_rfl,λh=>by cases h⟩
 ·exact⟨by kernel_rfl,λh=>by cases h⟩
 ·exact⟨by kernel_rfl,λh=>by cases h⟩
 ·exact⟨by kernel_rfl,λh=>by cases h⟩
 ·exact⟨by kernel_rfl,λh=>by cases h⟩
 ·exact⟨by kernel_rfl,λh=>by cases h⟩
 ·exact⟨by kernel_rfl,λh=>by cases h⟩
 ·exact⟨by kernel_rfl,λh=>by cases h⟩
 ·exact⟨by kernel_rfl,λh=>by cases h⟩
 ·exact⟨by kernel_rfl,λh=>by cases h⟩
 ·exact⟨by kernel_rfl,λh=>by cases h⟩
 ·exact⟨by kernel_rfl,λh=>by cases h⟩
 ·exact⟨by kernel_rfl,λh=>by cases h⟩
 ·exact⟨by kernel_rfl,λh=>by cases h⟩
 ·exact⟨by kernel_rfl,λh=>by cases h⟩
 ·exact⟨by kernel_rfl,λh=>by cases h⟩
 ·exact⟨by kernel_rfl,λh=>by cases h⟩
 ·exact⟨by kernel_rfl,λh=>by cases h⟩
 ·exact⟨by kernel_rfl,λh=>by cases h⟩
 ·exact⟨by kernel_rfl,λh=>by cases h⟩
 ·exact⟨by kernel_rfl,λh=>by cases h⟩
 ·exact⟨by kernel_rfl,λh=>by cases h⟩
 ·exact⟨by kernel_rfl,λh=>by cases h⟩
 ·exact⟨by kernel_rfl,λh=>by cases h⟩
 ·exact⟨by kernel_rfl,λh=>by cases h⟩
 ·exact⟨by kernel_rfl,λh=>by cases h⟩
 ·exact⟨by kernel_rfl,λh=>by cases h⟩
 ·exact⟨by kernel_rfl,λh=>by cases h⟩
 ·exact⟨by kernel_rfl,λh=>by cases h⟩
 ·exact⟨by kernel_rfl,λh=>by cases h⟩
 ·exact⟨by kernel_rfl,λh=>by cases h⟩
 ·exact⟨by kernel_rfl,λh=>by cases h⟩
 ·exact⟨by kernel_rfl,λh=>by cases h⟩
 ·exact⟨by kernel_rfl,λh=>by cases h⟩
 ·exact⟨by kernel_rfl,λh=>by cases h⟩
 ·exact⟨by kernel_rfl,λh=>by cases h⟩
 ·exact⟨by kernel_rfl,λh=>by cases h⟩
 ·exact⟨by kernel_rfl,λh=>by cases h⟩
 ·exact⟨by kernel_rfl,λh=>by cases h⟩
 ·exact⟨by kernel_rfl,λh=>by cases h⟩
theorem fns_small:∀p∈fnL,∃fn,Tryz.prog.funcs[p.1]? =some fn/\p.2=CM.fnOf fn/\CM.fnGood fn=true:=by
 intro p hp;simp only[fnL,List.mem_cons,List.not_mem_nil,or_false]at hp;rcases hp with rfl|rfl|rfl|rfl|rfl|rfl|rfl|rfl|rfl|rfl|rfl|rfl|rfl|rfl|rfl|rfl|rfl|rfl|rfl|rfl|rfl|rfl|rfl|rfl|rfl|rfl|rfl|rfl|rfl|rfl|rfl|rfl|rfl|rfl|rfl|rfl|rfl|rfl|rfl|rfl|rfl|rfl|rfl|rfl|rfl|rfl|rfl|rfl|rfl|rfl|rfl|rfl|rfl|rfl|rfl|rfl|rfl|rfl|rfl|rfl|rfl|rfl|rfl|rfl|rfl|rfl|rfl|rfl|rfl|rfl|rfl|rfl|rfl|rfl|rfl|rfl|rfl|rfl|rfl|rfl|rfl|rfl|rfl|rfl|rfl|rfl|rfl|rfl|rfl|rfl|rfl|rfl|rfl|rfl|rfl|rfl|rfl|rfl|rfl|rfl|rfl|rfl|rfl|rfl|rfl|rfl|rfl|rfl|rfl|rfl|rfl|rfl|rfl|rfl|rfl|rfl|rfl|rfl|rfl|rfl|rfl|rfl|rfl|rfl|rfl|rfl|rfl|rfl|rfl|rfl|rfl|rfl|rfl|rfl|rfl|rfl|rfl|rfl|rfl|rfl|rfl|rfl|rfl|rfl|rfl|rfl|rfl|rfl|rfl|rfl|rfl|rfl|rfl|rfl|rfl|rfl|rfl|rfl|rfl|rfl|rfl|rfl|rfl|rfl|rfl|rfl|rfl|rfl|rfl|rfl|rfl
 ·exact⟨Tryz.f3,Tryz.func3,rfl,by kernel_rfl⟩
 ·exact⟨Tryz.f4,Tryz.func4,rfl,by kernel_rfl⟩
 ·exact⟨Tryz.f5,Tryz.func5,rfl,by kernel_rfl⟩
 ·exact⟨Tryz.f7,Tryz.func7,rfl,by kernel_rfl⟩
 ·exact⟨Tryz.f8,Tryz.func8,rfl,by kernel_rfl⟩
 ·exact⟨Tryz.f9,Tryz.func9,rfl,by kernel_rfl⟩
 ·exact⟨Tryz.f10,Tryz.func10,rfl,by kernel_rfl⟩
 ·exact⟨Tryz.f11,Tryz.func11,rfl,by kernel_rfl⟩
 ·exact⟨Tryz.f12,Tryz.func12,rfl,by kernel_rfl⟩
 ·exact⟨Tryz.f13,Tryz.func13,rfl,by kernel_rfl⟩
 ·exact⟨Tryz.f14,Tryz.func14,rfl,by kernel_rfl⟩
 ·exact⟨Tryz.f15,Tryz.func15,rfl,by kernel_rfl⟩
 ·exact⟨Tryz.f16,Tryz.func16,rfl,by kernel_rfl⟩
 ·exact⟨Tryz.f17,Tryz.func17,rfl,by kernel_rfl⟩
 ·exact⟨Tryz.f18,Tryz.func18,rfl,by kernel_rfl⟩
 ·exact⟨Tryz.f19,Tryz.func19,rfl,by kernel_rfl⟩
 ·exact⟨Tryz.f20,Tryz.func20,rfl,by kernel_rfl⟩
 ·exact⟨Tryz.f21,Tryz.func21,rfl,by kernel_rfl⟩
 ·exact⟨Tryz.f23,Tryz.func23,rfl,by kernel_rfl⟩
 ·exact⟨Tryz.f24,Tryz.func24,rfl,by kernel_rfl⟩
 ·exact⟨Tryz.f25,Tryz.func25,rfl,by kernel_rfl⟩
 ·exact⟨Tryz.f26,Tryz.func26,rfl,by kernel_rfl⟩
 ·exact⟨Tryz.f27,Tryz.func27,rfl,by kernel_rfl⟩
 ·exact⟨Tryz.f28,Tryz.func28,rfl,by kernel_rfl⟩
 ·exact⟨Tryz.f29,Tryz.func29,rfl,by kernel_rfl⟩
 ·exact⟨Tryz.f30,Tryz.func30,rfl,by kernel_rfl⟩
 ·exact⟨Tryz.f31,Tryz.func31,rfl,by kernel_rfl⟩
 ·exact⟨Tryz.f32,Tryz.func32,rfl,by kernel_rfl⟩
 ·exact⟨Tryz.f33,Tryz.func33,rfl,by kernel_rfl⟩
 ·exact⟨Tryz.f34,Tryz.func34,rfl,by kernel_rfl⟩
 ·exact⟨Tryz.f35,Tryz.func35,rfl,by kernel_rfl⟩
 ·exact⟨Tryz.f36,Tryz.func36,rfl,by kernel_rfl⟩
 ·exact⟨Tryz.f37,Tryz.func37,rfl,by kernel_rfl⟩
 ·exact⟨Tryz.f38,Tryz.func38,rfl,by kernel_rfl⟩
 ·exact⟨Tryz.f39,Tryz.func39,rfl,by kernel_rfl⟩
 ·exact⟨Tryz.f40,Tryz.func40,rfl,by kernel_rfl⟩
 ·exact⟨Tryz.f41,Tryz.func41,rfl,by kernel_rfl⟩
 ·exact⟨Tryz.f42,Tryz.func42,rfl,by kernel_rfl⟩
 ·exact⟨Tryz.f43,Tryz.func43,rfl,by kernel_rfl⟩
 ·exact⟨Tryz.f44,Tryz.func44,rfl,by kernel_rfl⟩
 ·exact⟨Tryz.f45,Tryz.func45,rfl,by kernel_rfl⟩
 ·exact⟨Tryz.f46,Tryz.func46,rfl,by kernel_rfl⟩
 ·exact⟨Tryz.f47,Tryz.func47,rfl,by kernel_rfl⟩
 ·exact⟨Tryz.f48,Tryz.func48,rfl,by kernel_rfl⟩
 ·exact⟨Tryz.f49,Tryz.func49,rfl,by kernel_rfl⟩
 ·exact⟨Tryz.f50,Tryz.func50,rfl,by kernel_rfl⟩
 ·exact⟨Tryz.f51,Tryz.func51,rfl,by kernel_rfl⟩
 ·exact⟨Tryz.f52,Tryz.func52,rfl,by kernel_rfl⟩
 ·exact⟨Tryz.f53,Tryz.func53,rfl,by kernel_rfl⟩
 ·exact⟨Tryz.f54,Tryz.func54,rfl,by kernel_rfl⟩
 ·exact⟨Tryz.f55,Tryz.func55,rfl,by kernel_rfl⟩
 ·exact⟨Tryz.f56,Tryz.func56,rfl,by kernel_rfl⟩
 ·exact⟨Tryz.f57,Tryz.func57,rfl,by kernel_rfl⟩
 ·exact⟨Tryz.f58,Tryz.func58,rfl,by kernel_rfl⟩
 ·exact⟨Tryz.f59,Tryz.func59,rfl,by kernel_rfl⟩
 ·exact⟨Tryz.f60,Tryz.func60,rfl,by kernel_rfl⟩
 ·exact⟨Tryz.f61,Tryz.func61,rfl,by kernel_rfl⟩
 ·exact⟨Tryz.f62,Tryz.func62,rfl,by kernel_rfl⟩
 ·exact⟨Tryz.f63,Tryz.func63,rfl,by kernel_rfl⟩
 ·exact⟨Tryz.f64,Tryz.func64,rfl,by kernel_rfl⟩
 ·exact⟨Tryz.f65,Tryz.func65,rfl,by kernel_rfl⟩
 ·exact⟨Tryz.f66,Tryz.func66,rfl,by kernel_rfl⟩
 ·exact⟨Tryz.f67,Tryz.func67,rfl,by kernel_rfl⟩
 ·exact⟨Tryz.f68,Tryz.func68,rfl,by kernel_rfl⟩
 ·exact⟨Tryz.f69,Tryz.func69,rfl,by kernel_rfl⟩
 ·exact⟨Tryz.f70,Tryz.func70,rfl,by kernel_rfl⟩
 ·exact⟨Tryz.f71,Tryz.func71,rfl,by kernel_rfl⟩
 ·exact⟨Tryz.f72,Tryz.func72,rfl,by kernel_rfl⟩
 ·exact⟨Tryz.f73,Tryz.func73,rfl,by kernel_rfl⟩
 ·exact⟨Tryz.f74,Tryz.func74,rfl,by kernel_rfl⟩
 ·exact⟨Tryz.f75,Tryz.func75,rfl,by kernel_rfl⟩
 ·exact⟨Tryz.f76,Tryz.func76,rfl,by kernel_rfl⟩
 ·exact⟨Tryz.f77,Tryz.func77,rfl,by kernel_rfl⟩
 ·exact⟨Tryz.f78,Tryz.func78,rfl,by kernel_rfl⟩
 ·exact⟨Tryz.f79,Tryz.func79,rfl,by kernel_rfl⟩
 ·exact⟨Tryz.f80,Tryz.func80,rfl,by kernel_rfl⟩
 ·exact⟨Tryz.f81,Tryz.func81,rfl,by kernel_rfl⟩
 ·exact⟨Tryz.f82,Tryz.func82,rfl,by kernel_rfl⟩
 ·exact⟨Tryz.f83,Tryz.func83,rfl,by kernel_rfl⟩
 ·exact⟨Tryz.f84,Tryz.func84,rfl,by kernel_rfl⟩
 ·exact⟨Tryz.f85,Tryz.func85,rfl,by kernel_rfl⟩
 ·exact⟨Tryz.f86,Tryz.func86,rfl,by kernel_rfl⟩
 ·exact⟨Tryz.f87,Tryz.func87,rfl,by kernel_rfl⟩
 ·exact⟨Tryz.f88,Tryz.func88,rfl,by kernel_rfl⟩
 ·exact⟨Tryz.f89,Tryz.func89,rfl,by kernel_rfl⟩
 ·exact⟨Tryz.f90,Tryz.func90,rfl,by kernel_rfl⟩
 ·exact⟨Tryz.f91,Tryz.func91,rfl,by kernel_rfl⟩
 ·exact⟨Tryz.f92,Tryz.func92,rfl,by kernel_rfl⟩
 ·exact⟨Tryz.f93,Tryz.func93,rfl,by kernel_rfl⟩
 ·exact⟨Tryz.f94,Tryz.func94,rfl,by kernel_rfl⟩
 ·exact⟨Tryz.f95,Tryz.func95,rfl,by kernel_rfl⟩
 ·exact⟨Tryz.f96,Tryz.func96,rfl,by kernel_rfl⟩
 ·exact⟨Tryz.f97,Tryz.func97,rfl,by kernel_rfl⟩
 ·exact⟨Tryz.f98,Tryz.func98,rfl,by kernel_rfl⟩
 ·exact⟨Tryz.f99,Tryz.func99,rfl,by kernel_rfl⟩
 ·exact⟨Tryz.f100,Tryz.func100,rfl,by kernel_rfl⟩
 ·exact⟨Tryz.f101,Tryz.func101,rfl,by kernel_rfl⟩
 ·exact⟨Tryz.f102,Tryz.func102,rfl,by kernel_rfl⟩
 ·exact⟨Tryz.f103,Tryz.func103,rfl,by kernel_rfl⟩
 ·exact⟨Tryz.f104,Tryz.func104,rfl,by kernel_rfl⟩
 ·exact⟨Tryz.f105,Tryz.func105,rfl,by kernel_rfl⟩
 ·exact⟨Tryz.f106,Tryz.func106,rfl,by kernel_rfl⟩
 ·exact⟨Tryz.f107,Tryz.func107,rfl,by kernel_rfl⟩
 ·exact⟨Tryz.f108,Tryz.func108,rfl,by kernel_rfl⟩
 ·exact⟨Tryz.f109,Tryz.func109,rfl,by kernel_rfl⟩
 ·exact⟨Tryz.f110,Tryz.func110,rfl,by kernel_rfl⟩
 ·exact⟨Tryz.f111,Tryz.func111,rfl,by kernel_rfl⟩
 ·exact⟨Tryz.f112,Tryz.func112,rfl,by kernel_rfl⟩
 ·exact⟨Tryz.f113,Tryz.func113,rfl,by kernel_rfl⟩
 ·exact⟨Tryz.f114,Tryz.func114,rfl,by kernel_rfl⟩
 ·exact⟨Tryz.f115,Tryz.func115,rfl,by kernel_rfl⟩
 ·exact⟨Tryz.f116,Tryz.func116,rfl,by kernel_rfl⟩
 ·exact⟨Tryz.f117,Tryz.func117,rfl,by kernel_rfl⟩
 ·exact⟨Tryz.f118,Tryz.func118,rfl,by kernel_rfl⟩
 ·exact⟨Tryz.f119,Tryz.func119,rfl,by kernel_rfl⟩
 ·exact⟨Tryz.f120,Tryz.func120,rfl,by kernel_rfl⟩
 ·exact⟨Tryz.f121,Tryz.func121,rfl,by kernel_rfl⟩
 ·exact⟨Tryz.f122,Tryz.func122,rfl,by kernel_rfl⟩
 ·exact⟨Tryz.f123,Tryz.func123,rfl,by kernel_rfl⟩
 ·exact⟨Tryz.f124,Tryz.func124,rfl,by kernel_rfl⟩
 ·exact⟨Tryz.f125,Tryz.func125,rfl,by kernel_rfl⟩
 ·exact⟨Tryz.f126,Tryz.func126,rfl,by kernel_rfl⟩
 ·exact⟨Tryz.f127,Tryz.func127,rfl,by kernel_rfl⟩
 ·exact⟨Tryz.f128,Tryz.func128,rfl,by kernel_rfl⟩
 ·exact⟨Tryz.f129,Tryz.func129,rfl,by kernel_rfl⟩
 ·exact⟨Tryz.f130,Tryz.func130,rfl,by kernel_rfl⟩
 ·exact⟨Tryz.f131,Tryz.func131,rfl,by kernel_rfl⟩
 ·exact⟨Tryz.f132,Tryz.func132,rfl,by kernel_rfl⟩
 ·exact⟨Tryz.f133,Tryz.func133,rfl,by kernel_rfl⟩
 ·exact⟨Tryz.f134,Tryz.func134,rfl,by kernel_rfl⟩
 ·exact⟨Tryz.f135,Tryz.func135,rfl,by kernel_rfl⟩
 ·exact⟨Tryz.f136,Tryz.func136,rfl,by kernel_rfl⟩
 ·exact⟨Tryz.f137,Tryz.func137,rfl,by kernel_rfl⟩
 ·exact⟨Tryz.f138,Tryz.func138,rfl,by kernel_rfl⟩
 ·exact⟨Tryz.f139,Tryz.func139,rfl,by kernel_rfl⟩
 ·exact⟨Tryz.f140,Tryz.func140,rfl,by kernel_rfl⟩
 ·exact⟨Tryz.f141,Tryz.func141,rfl,by kernel_rfl⟩
 ·exact⟨Tryz.f142,Tryz.func142,rfl,by kernel_rfl⟩
 ·exact⟨Tryz.f143,Tryz.func143,rfl,by kernel_rfl⟩
 ·exact⟨Tryz.f144,Tryz.func144,rfl,by kernel_rfl⟩
 ·exact⟨Tryz.f145,Tryz.func145,rfl,by kernel_rfl⟩
 ·exact⟨Tryz.f146,Tryz.func146,rfl,by kernel_rfl⟩
 ·exact⟨Tryz.f147,Tryz.func147,rfl,by kernel_rfl⟩
 ·exact⟨Tryz.f148,Tryz.func148,rfl,by kernel_rfl⟩
 ·exact⟨Tryz.f149,Tryz.func149,rfl,by kernel_rfl⟩
 ·exact⟨Tryz.f150,Tryz.func150,rfl,by kernel_rfl⟩
 ·exact⟨Tryz.f151,Tryz.func151,rfl,by kernel_rfl⟩
 ·exact⟨Tryz.f152,Tryz.func152,rfl,by kernel_rfl⟩
 ·exact⟨Tryz.f153,Tryz.func153,rfl,by kernel_rfl⟩
 ·exact⟨Tryz.f154,Tryz.func154,rfl,by kernel_rfl⟩
 ·exact⟨Tryz.f155,Tryz.func155,rfl,by kernel_rfl⟩
 ·exact⟨Tryz.f156,Tryz.func156,rfl,by kernel_rfl⟩
 ·exact⟨Tryz.f157,Tryz.func157,rfl,by kernel_rfl⟩
 ·exact⟨Tryz.f158,Tryz.func158,rfl,by kernel_rfl⟩
 ·exact⟨Tryz.f159,Tryz.func159,rfl,by kernel_rfl⟩
 ·exact⟨Tryz.f160,Tryz.func160,rfl,by kernel_rfl⟩
 ·exact⟨Tryz.f161,Tryz.func161,rfl,by kernel_rfl⟩
 ·exact⟨Tryz.f163,Tryz.func163,rfl,by kernel_rfl⟩
 ·exact⟨Tryz.f164,Tryz.func164,rfl,by kernel_rfl⟩
 ·exact⟨Tryz.f165,Tryz.func165,rfl,by kernel_rfl⟩
 ·exact⟨Tryz.f166,Tryz.func166,rfl,by kernel_rfl⟩
 ·exact⟨Tryz.f167,Tryz.func167,rfl,by kernel_rfl⟩
 ·exact⟨Tryz.f168,Tryz.func168,rfl,by kernel_rfl⟩
 ·exact⟨Tryz.f169,Tryz.func169,rfl,by kernel_rfl⟩
 ·exact⟨Tryz.f172,Tryz.func172,rfl,by kernel_rfl⟩
 ·exact⟨Tryz.f173,Tryz.func173,rfl,by kernel_rfl⟩
 ·exact⟨Tryz.f174,Tryz.func174,rfl,by kernel_rfl⟩
 ·exact⟨Tryz.f175,Tryz.func175,rfl,by kernel_rfl⟩
 ·exact⟨Tryz.f176,Tryz.func176,rfl,by kernel_rfl⟩
 ·exact⟨Tryz.f178,Tryz.func178,rfl,by kernel_rfl⟩
 ·exact⟨Tryz.f196,Tryz.func196,rfl,by kernel_rfl⟩
end Kn
theorem envW1:CM.EnvW Tryz.prog E1:=CM.envW_small2 Kn.tys_good Kn.fns_small Kn.mixed Kn.rows_good (λe he=>by
 simp only[known,List.mem_cons,List.not_mem_nil,or_false]at he;rcases he with rfl|rfl
 ·exact Kn.lives_known
 ·exact Kn.fields_known)
end
end Go.Proofs.YtmgpjfnlciapkaaGreatDoor

namespace Go.Proofs.YtmgpjfnlciapkaaGreatDoor
open Go Go.CM Go.CM.Tt
noncomputable section
set_option maxRecDepth 100000
theorem row_low:∀r∈rows,r.1<nglob:=by
 intro r hr;have hr:r∈[(0,ascii.map (CM.CV.int .u8))]:=hr;rw[List.mem_singleton]at hr;rw[hr];decide
theorem fresh_of (blks:List (List CV)):Fresh (heapOf nglob rows blks):=λk hk=>by
 rw[heapOf_next]at hk;cases hg:(heapOf nglob rows blks).get k with
 |none=>rfl
 |some b=>
  rcases heapOf_get hg with⟨n,cs,rfl,hn,_⟩|⟨cs,hm,_⟩
  ·have:=(List.getElem?_eq_some_iff.1 hn).1
   omega
  ·have:=row_low _ hm
   simp only at this;omega
theorem rh_of (blks:List (List CV)):RH (heapOf nglob rows blks):=⟨rows_at (by decide) (by kernel_rfl),λr hr=>by
 rw[heapOf_next];have:=row_low r hr;omega⟩
end
end Go.Proofs.YtmgpjfnlciapkaaGreatDoor

namespace Go.Proofs.YtmgpjfnlciapkaaGreatDoor
open Go Go.CM Go.CM.Tt
noncomputable section
set_option maxRecDepth 100000
theorem law_runs {H:Type} {enc:TypeId×Value->H} {W:World} {v0 v1 v2:Value} {d0 d1 d2:DataW H} {p0 p1 p2:List MemPlace} (t0:DataW.Trod enc Tryz.prog W 0 (λ_=>true) true 29 v0 d0 p0)
  (t1:DataW.Trod enc Tryz.prog W 0 (λ_=>true) true 40 v1 d1 p1) (t2:DataW.Trod enc Tryz.prog W 0 (λ_=>true) true 40 v2 d2 p2) (s:ByteArray) (h1:nglob<=W.heap.size) (h2:RowsAt W rows (rho0 nglob)):
  Calls Tryz.prog 4 #[v0,v1,v2,.string s] W λe w'=>∃x,e= .returned x/\VR (rho0 nglob) (.bool true) x/\Keep (λ_=>False) W w':=by
 obtain⟨bs,vss,hl,hH,hv⟩:=open_args (rows:=rows) [(ptSheet,v0),(ptWorld,v1),(ptWorld,v2)] (λit hit=>by
  simp only[List.mem_cons,List.not_mem_nil,or_false]at hit;rcases hit with rfl|rfl|rfl
  ·exact⟨_,_,_,ptB_ok 10 ptSheet 29 (by kernel_rfl),t0⟩
  ·exact⟨_,_,_,ptB_ok 10 ptWorld 40 (by kernel_rfl),t1⟩
  ·exact⟨_,_,_,ptB_ok 10 ptWorld 40 (by kernel_rfl),t2⟩) h1 (λr hr=>envW1.rows r hr) h2
 match vss,hl with
 |[a,b,c],_=>
  obtain⟨r0,o0,_,q0⟩:=hv 0 _ a rfl rfl;obtain⟨r1,o1,_,q1⟩:=hv 1 _ b rfl rfl;obtain⟨r2,o2,_,q2⟩:=hv 2 _ c rfl rfl;obtain⟨x,hx⟩:=rep_sheet q0;obtain⟨w,hw⟩:=rep_world q1;obtain⟨v,hu⟩:=rep_world q2;obtain⟨arr0,rfl,g0⟩:=agg_of r0 o0 (by have:a.length=7:=Rp.len hx;omega);obtain⟨arr1,rfl,g1⟩:=agg_of r1 o1 (by have:b.length=12:=Rp.len hw;omega);obtain⟨arr2,rfl,g2⟩:=agg_of r2 o2 (by have:c.length=12:=Rp.len hu;omega);have hrun:CM.W E1 (.call (.fn 4 [] []) [.agg a,.agg b,.agg c,.str s.data.toList]) .leaf (heapOf E1.globs E1.rows (bs.map (·.cs))) (λr=>∃h',r= .val (.bool true) h'):=calls_w s.data.toList hx hw hu (rh_of _) (fresh_of _);have hxs:VRs (rhoA E1.globs bs) [.agg a,.agg b,.agg c,.str s.data.toList] [.agg arr0,.agg arr1,.agg arr2,.string s]:=VRs.cons g0 (VRs.cons g1 (VRs.cons g2 (VRs.cons (.str _) (VRs.nil _))));exact run_args envW1 hrun rfl hH hxs
end
end Go.Proofs.YtmgpjfnlciapkaaGreatDoor
