/- What the law asks first is known: the kernel runs it on the plain machine; the small environment. No condition. -/
import Derived.Test.YtnjkaahbhebaeaaGreatDoorCmU
import Derived.Test.YtnjkaahbhebaeaaGreatDoorZF
import Derived.Test.YtnjkaahbhebaeaaGreatDoorYE
import Derived.KernelRfl
import Derived.Test.YtnjkaahbhebaeaaGreatDoorCmZ
set_option linter.unusedVariables false
set_option linter.unusedSimpArgs false
namespace Go.Proofs.YtnjkaahbhebaeaaGreatDoor
open Go
noncomputable section
set_option maxRecDepth 1000000
namespace Kn
def fnl:List Nat:=[11,13,14,15,19,20,24,34,36,42,43,46,48,50,51,53,55,60,61,63,64,65,66,68,69,70,71,72,73,74,75,77,78,81,91,98,99,100,101,102,104,108,112,113,114,115,118,119,120,121,122,123,124,125,126,127,128,130,131,132,133,136,137,138,139,140,141,142,143,146,149,150,151,152,153,155,156,157,158,159,161,162,163,164,165,166,167,169,170,171,181,182,183,184,192,193,194,195,197,198,199,200,201,202,204,205,206,207,208,209,211,212,213,214,215,216,218,219,220,221,222,228,229,230,231,232,233,234,235,236,237,238,239,240,241,242,243,244,245,246,247,248,249,250,251,252,253,254,255,256,257,258,259,260,262,263,264,265,266,268,269,270,271,272,274,275,276,277,278,279,281,282,283,284,286,287,290,291,292,293,294,295,296,297,298,299,300,301,302,303,304,306,307,308,310,311,312,314,315,316]
def env (kn:List CM.KE):CM.Env:=CM.envOf Tryz.prog 411 [94,116,200] 348 fnl 1 kn rows
theorem fns_good:CM.fnsGood Tryz.prog fnl=true:=by kernel_rfl
theorem mixed:Tryz.prog.follows .mixedOrders=true:=by kernel_rfl
theorem rows_good:CM.rowsGood 1 rows=true:=by kernel_rfl
theorem envW {kn:List CM.KE} (h:∀e∈kn,CM.KnownOk Tryz.prog 1 rows e):CM.EnvW Tryz.prog (env kn):=CM.envW_of fns_good mixed rows_good h
abbrev KO (e:CM.KE):Prop:=CM.KnownOk Tryz.prog 1 rows e
abbrev PO (l:List CM.KE):Prop:=∀e∈l,KO e
theorem no:PO []:=λ_ h=>by cases h
theorem en {l:List CM.KE} {e:CM.KE} (h:PO l) (r:(CM.run (env l) 1000000 (.call (.fn e.f [] []) e.args) .leaf (CM.heapOf (env l).globs (env l).rows e.blks)).gives (env l).globs e=true:=by kernel_rfl):KO e:=CM.known_of (envW h) r
theorem st {l:List CM.KE} {e:CM.KE} (h:PO l) (r:(CM.run (env l) 1000000 (.call (.fn e.f [] []) e.args) .leaf (CM.heapOf (env l).globs (env l).rows e.blks)).gives (env l).globs e=true:=by kernel_rfl):PO (e::l):=λx hx=>(List.mem_cons.1 hx).elim (λq=>q▸en h r) (h x)
abbrev I (n:Int):CM.CV:= .int .i64 n
abbrev N:CM.CV:= .slice none 0 0 0
abbrev S (i n c x:Nat):CM.CV:= .slice (some (i,0)) n c x
def n0:List CM.KE:=⟨15,[.agg [I 40,S 1 2 2 0,S 2 1 1 0]],[[N,N],[I 0,I 1,I 3,.bool true,I 0,S 3 2 2 0,N],[I 5,I 7,I 15,I 17]],I 0,[]⟩::[]
theorem s0:PO n0:=st no
def n1:List CM.KE:=⟨228,[S 1 2 2 0,I 16],[[I 5,I 7,I 15,I 17]],I 1,[]⟩::n0
theorem s1:PO n1:=st s0
def n2:List CM.KE:=⟨153,[S 1 2 2 0,I 16],[[I 5,I 7,I 15,I 17]],I 16,[]⟩::n1
theorem s2:PO n2:=st s1
theorem lives11_known:KO lives11E:=en s2
def n3:List CM.KE:=⟨252,[.str [97]],[],.bool true,[]⟩::n2
theorem s3:PO n3:=st s2
def n4:List CM.KE:=⟨252,[.str [98]],[],.bool true,[]⟩::n3
theorem s4:PO n4:=st s3
def n5:List CM.KE:=⟨252,[.str [99]],[],.bool true,[]⟩::n4
theorem s5:PO n5:=st s4
def n6:List CM.KE:=⟨252,[.str [114]],[],.bool true,[]⟩::n5
theorem s6:PO n6:=st s5
def n7:List CM.KE:=⟨252,[.str [116]],[],.bool true,[]⟩::n6
theorem s7:PO n7:=st s6
def n8:List CM.KE:=⟨218,[.agg [I 30,S 1 3 3 1,N,N,S 2 1 1 4,S 3 1 1 5,N]],[[.str [97],.str [98],.str [99]],[.str [114],S 4 3 3 1,S 5 2 2 1,S 6 1 1 1],[.str [116],.str [114],I 1,I 10,I 40],[.str [97],.str [98],.str [99]],[I 5,I 3],[I 2]],I 0,[]⟩::n7
theorem s8:PO n8:=st s7
def n9:List CM.KE:=⟨219,[.agg [I 30,S 1 3 3 1,N,N,S 2 1 1 4,S 3 1 1 5,N]],[[.str [97],.str [98],.str [99]],[.str [114],S 4 3 3 1,S 5 2 2 1,S 6 1 1 1],[.str [116],.str [114],I 1,I 10,I 40],[.str [97],.str [98],.str [99]],[I 5,I 3],[I 2]],.agg [I 30,S 7 3 3 1,N,N,S 8 1 1 1,S 9 1 1 1,N,N,N,S 10 1 1 3,S 11 1 1 4,N],[[.str [97],.str [98],.str [99]],[.str [114]],[.str [116]],[S 12 3 3 1,S 13 2 2 1,S 14 1 1 1],[I 0,I 1,I 10,I 40],[I 0,I 1,I 2],[I 5,I 3],[I 2]]⟩::n8
theorem s9:PO n9:=st s8
def n10:List CM.KE:=⟨220,[.ptr (some (1,0))],[[I 30,S 2 3 3 1,N,N,S 3 1 1 1,S 4 1 1 1,N,N,N,S 5 1 1 3,S 6 1 1 4,N],[.str [97],.str [98],.str [99]],[.str [114]],[.str [116]],[S 7 3 3 1,S 8 2 2 1,S 9 1 1 1],[I 0,I 1,I 10,I 40],[I 0,I 1,I 2],[I 5,I 3],[I 2]],.agg [I 0,I 0,I 0],[]⟩::n9
theorem s10:PO n10:=st s9
def n11:List CM.KE:=⟨231,[I 1,I 10,I 2],[],.tup [I 21,I 0],[]⟩::n10
theorem s11:PO n11:=st s10
def n12:List CM.KE:=⟨163,[.agg [I 30,S 1 3 3 0,N,N,S 2 1 1 0,S 3 1 1 0,N,N,N,S 4 1 1 0,S 5 1 1 0,N],I 0,I 2],[[.str [97],.str [98],.str [99]],[.str [114]],[.str [116]],[S 6 3 3 0,S 7 2 2 0,S 8 1 1 0],[I 0,I 1,I 10,I 40],[I 0,I 1,I 2],[I 5,I 3],[I 2]],.tup [.agg [I 0,I 2,S 9 3 3 1,S 10 3 3 1],.bool false],[[I 21,I 26,I 31],[I 21,I 28,I 31]]⟩::n11
theorem s12:PO n12:=st s11
def n13:List CM.KE:=⟨231,[I 1,I 10,I 1],[],.tup [I 11,I 0],[]⟩::n12
theorem s13:PO n13:=st s12
def n14:List CM.KE:=⟨163,[.agg [I 30,S 1 3 3 0,N,N,S 2 1 1 0,S 3 1 1 0,N,N,N,S 4 1 1 0,S 5 1 1 0,N],I 0,I 1],[[.str [97],.str [98],.str [99]],[.str [114]],[.str [116]],[S 6 3 3 0,S 7 2 2 0,S 8 1 1 0],[I 0,I 1,I 10,I 40],[I 0,I 1,I 2],[I 5,I 3],[I 2]],.tup [.agg [I 0,I 1,S 9 3 3 1,S 10 3 3 1],.bool true],[[I 11,I 16,I 21],[I 11,I 18,I 21]]⟩::n13
theorem s14:PO n14:=st s13
def n15:List CM.KE:=⟨230,[.agg [I 30,S 1 3 3 0,N,N,S 2 1 1 0,S 3 1 1 0,N,N,N,S 4 1 1 0,S 5 1 1 0,N],I 0],[[.str [97],.str [98],.str [99]],[.str [114]],[.str [116]],[S 6 3 3 0,S 7 2 2 0,S 8 1 1 0],[I 0,I 1,I 10,I 40],[I 0,I 1,I 2],[I 5,I 3],[I 2]],I 2,[]⟩::n14
theorem s15:PO n15:=st s14
def n16:List CM.KE:=⟨231,[I 1,I 10,I 0],[],.tup [I 1,I 0],[]⟩::n15
theorem s16:PO n16:=st s15
def n17:List CM.KE:=⟨141,[.agg [I 30,S 1 3 3 1,N,N,S 2 1 1 1,S 3 1 1 1,N,N,N,S 4 1 1 3,S 5 1 1 4,N]],[[.str [97],.str [98],.str [99]],[.str [114]],[.str [116]],[S 6 3 3 1,S 7 2 2 1,S 8 1 1 1],[I 0,I 1,I 10,I 40],[I 0,I 1,I 2],[I 5,I 3],[I 2]],.bool true,[]⟩::n16
theorem s17:PO n17:=st s16
def n18:List CM.KE:=⟨143,[.agg [I 30,S 1 3 3 1,N,N,S 2 1 1 1,S 3 1 1 1,N,N,N,S 4 1 1 3,S 5 1 1 4,N]],[[.str [97],.str [98],.str [99]],[.str [114]],[.str [116]],[S 6 3 3 1,S 7 2 2 1,S 8 1 1 1],[I 0,I 1,I 10,I 40],[I 0,I 1,I 2],[I 5,I 3],[I 2]],.agg [I 30,S 9 3 3 1,N,N,S 10 1 1 4,S 11 1 1 5,N],[[.str [97],.str [98],.str [99]],[.str [114],S 12 3 3 1,S 13 2 2 1,S 14 1 1 1],[.str [116],.str [114],I 1,I 10,I 40],[.str [97],.str [98],.str [99]],[I 5,I 3],[I 2]]⟩::n17
theorem s18:PO n18:=st s17
def n19:List CM.KE:=⟨163,[.agg [I 30,S 1 3 3 1,N,N,S 2 1 1 1,S 3 1 1 1,N,N,N,S 4 1 1 3,S 5 1 1 4,N],I 0,I 2],[[.str [97],.str [98],.str [99]],[.str [114]],[.str [116]],[S 6 3 3 1,S 7 2 2 1,S 8 1 1 1],[I 0,I 1,I 10,I 40],[I 0,I 1,I 2],[I 5,I 3],[I 2]],.tup [.agg [I 0,I 2,S 9 3 3 1,S 10 3 3 1],.bool false],[[I 21,I 26,I 31],[I 21,I 28,I 31]]⟩::n18
theorem s19:PO n19:=st s18
def n20:List CM.KE:=⟨163,[.agg [I 30,S 1 3 3 1,N,N,S 2 1 1 1,S 3 1 1 1,N,N,N,S 4 1 1 3,S 5 1 1 4,N],I 0,I 1],[[.str [97],.str [98],.str [99]],[.str [114]],[.str [116]],[S 6 3 3 1,S 7 2 2 1,S 8 1 1 1],[I 0,I 1,I 10,I 40],[I 0,I 1,I 2],[I 5,I 3],[I 2]],.tup [.agg [I 0,I 1,S 9 3 3 1,S 10 3 3 1],.bool true],[[I 11,I 16,I 21],[I 11,I 18,I 21]]⟩::n19
theorem s20:PO n20:=st s19
def n21:List CM.KE:=⟨230,[.agg [I 30,S 1 3 3 1,N,N,S 2 1 1 1,S 3 1 1 1,N,N,N,S 4 1 1 3,S 5 1 1 4,N],I 0],[[.str [97],.str [98],.str [99]],[.str [114]],[.str [116]],[S 6 3 3 1,S 7 2 2 1,S 8 1 1 1],[I 0,I 1,I 10,I 40],[I 0,I 1,I 2],[I 5,I 3],[I 2]],I 2,[]⟩::n20
theorem s21:PO n21:=st s20
def n22:List CM.KE:=⟨163,[.agg [I 30,S 1 3 3 1,N,N,S 2 1 1 1,S 3 1 1 1,N,N,N,S 4 1 1 3,S 5 1 1 4,N],I 0,I 0],[[.str [97],.str [98],.str [99]],[.str [114]],[.str [116]],[S 6 3 3 1,S 7 2 2 1,S 8 1 1 1],[I 0,I 1,I 10,I 40],[I 0,I 1,I 2],[I 5,I 3],[I 2]],.tup [.agg [I 0,I 0,S 9 3 3 1,S 10 3 3 1],.bool true],[[I 1,I 6,I 11],[I 1,I 8,I 11]]⟩::n21
theorem s22:PO n22:=st s21
def n23:List CM.KE:=⟨165,[.agg [I 0,I 0,I 1,I 4],.agg [I 0,I 0,I (-4611686018427387904),I 0]],[],I 1,[]⟩::n22
theorem s23:PO n23:=st s22
def n24:List CM.KE:=⟨239,[.agg [I 0,I 0,S 1 3 3 1,S 2 3 3 1]],[[I 1,I 6,I 11],[I 1,I 8,I 11]],.bool true,[]⟩::n23
theorem s24:PO n24:=st s23
def n25:List CM.KE:=⟨170,[.agg [I 0,I 0,S 1 3 3 1,S 2 3 3 1],I 1,I 4],[[I 1,I 6,I 11],[I 1,I 8,I 11]],.tup [.agg [I 0,I 0,S 3 3 3 1,S 4 3 3 1],I 0],[[I 1,I 6,I 15],[I 1,I 12,I 15]]⟩::n24
theorem s25:PO n25:=st s24
def n26:List CM.KE:=⟨108,[.agg [I 30,S 1 3 3 1,N,N,S 2 1 1 1,S 3 1 1 1,N,N,N,S 4 1 1 3,S 5 1 1 4,N,S 6 1 1 0,N],.agg [I 0,I 0,S 7 3 3 1,S 8 3 3 1]],[[.str [97],.str [98],.str [99]],[.str [114]],[.str [116]],[S 9 3 3 1,S 10 2 2 1,S 11 1 1 1],[I 0,I 1,I 10,I 40],[I 0,I 0,I 1,I 4],[I 1,I 6,I 11],[I 1,I 8,I 11],[I 0,I 1,I 2],[I 5,I 3],[I 2]],.tup [.agg [I 0,I 0,S 12 3 3 1,S 13 3 3 1],.bool true],[[I 1,I 6,I 15],[I 1,I 12,I 15]]⟩::n25
theorem s26:PO n26:=st s25
def n27:List CM.KE:=⟨112,[.agg [I 30,S 1 3 3 1,N,N,S 2 1 1 1,S 3 1 1 1,N,N,N,S 4 1 1 3,S 5 1 1 4,N,S 6 1 1 0,N],.agg [I 0,I 0]],[[.str [97],.str [98],.str [99]],[.str [114]],[.str [116]],[S 7 3 3 1,S 8 2 2 1,S 9 1 1 1],[I 0,I 1,I 10,I 40],[I 0,I 0,I 1,I 4],[I 0,I 1,I 2],[I 5,I 3],[I 2]],.tup [.agg [I 0,I 0,S 10 3 3 1,S 11 3 3 1],.bool true],[[I 1,I 6,I 15],[I 1,I 12,I 15]]⟩::n26
theorem s27:PO n27:=st s26
def n28:List CM.KE:=⟨36,[.agg [I 30,S 1 3 3 1,N,N,S 2 1 1 1,S 3 1 1 1,N,N,N,S 4 1 1 3,S 5 1 1 4,N,S 6 1 1 0,N]],[[.str [97],.str [98],.str [99]],[.str [114]],[.str [116]],[S 7 3 3 1,S 8 2 2 1,S 9 1 1 1],[I 0,I 1,I 10,I 40],[I 0,I 0,I 1,I 4],[I 0,I 1,I 2],[I 5,I 3],[I 2]],I 0,[]⟩::n27
theorem s28:PO n28:=st s27
def n29:List CM.KE:=⟨42,[.agg [I 30,S 1 3 3 1,N,N,S 2 1 1 1,S 3 1 1 1,N,N,N,S 4 1 1 3,S 5 1 1 4,N,S 6 1 1 0,N],.agg [I 0,I 0]],[[.str [97],.str [98],.str [99]],[.str [114]],[.str [116]],[S 7 3 3 1,S 8 2 2 1,S 9 1 1 1],[I 0,I 1,I 10,I 40],[I 0,I 0,I 1,I 4],[I 0,I 1,I 2],[I 5,I 3],[I 2]],.tup [.agg [I 0,I 0,S 10 3 3 1,S 11 3 3 1],I 0],[[I 1,I 6,I 15],[I 1,I 12,I 15]]⟩::n28
theorem s29:PO n29:=st s28
theorem lives16_known:KO lives16E:=en s29
def n30:List CM.KE:=⟨252,[.str [100]],[],.bool true,[]⟩::n29
theorem s30:PO n30:=st s29
def n31:List CM.KE:=⟨252,[.str [112]],[],.bool true,[]⟩::n30
theorem s31:PO n31:=st s30
def n32:List CM.KE:=⟨61,[.agg [I 30,S 1 4 4 0,S 2 1 1 0,N,S 3 1 1 0,S 4 1 1 0,N,S 5 1 1 0,N,S 6 1 1 0,S 7 1 1 0,N]],[[.str [97],.str [98],.str [99],.str [100]],[.str [112]],[.str [114]],[.str [116]],[I 2,I 3,I 4],[S 8 3 3 0,S 9 2 2 0,S 10 1 1 0],[I 0,I 1,I 10,I 40],[I 0,I 1,I 2],[I 5,I 3],[I 2]],.bool true,[]⟩::n31
theorem s32:PO n32:=st s31
def n33:List CM.KE:=⟨64,[.agg [I 30,S 1 4 4 0,S 2 1 1 0,N,S 3 1 1 0,S 4 1 1 0,N,S 5 1 1 0,N,S 6 1 1 0,S 7 1 1 0,N]],[[.str [97],.str [98],.str [99],.str [100]],[.str [112]],[.str [114]],[.str [116]],[I 2,I 3,I 4],[S 8 3 3 0,S 9 2 2 0,S 10 1 1 0],[I 0,I 1,I 10,I 40],[I 0,I 1,I 2],[I 5,I 3],[I 2]],.agg [I 30,S 11 4 4 1,S 12 1 1 4,N,S 13 1 1 4,S 14 1 1 5,N],[[.str [97],.str [98],.str [99],.str [100]],[.str [112],.str [99],.str [100],I 4],[.str [114],S 15 3 3 1,S 16 2 2 1,S 17 1 1 1],[.str [116],.str [114],I 1,I 10,I 40],[.str [97],.str [98],.str [99]],[I 5,I 3],[I 2]]⟩::n32
theorem s33:PO n33:=st s32
def n34:List CM.KE:=⟨197,[.agg [I 30,S 1 4 4 1,S 2 1 1 4,N,S 3 1 1 4,S 4 1 1 5,N]],[[.str [97],.str [98],.str [99],.str [100]],[.str [112],.str [99],.str [100],I 4],[.str [114],S 5 3 3 1,S 6 2 2 1,S 7 1 1 1],[.str [116],.str [114],I 1,I 10,I 40],[.str [97],.str [98],.str [99]],[I 5,I 3],[I 2]],S 8 13 13 1,[[.str [97],.str [98],.str [99],.str [100],.str [112],.str [99],.str [100],.str [114],.str [97],.str [98],.str [99],.str [116],.str [114]]]⟩::n33
theorem s34:PO n34:=st s33
def n35:List CM.KE:=⟨242,[.str [97]],[],.bool false,[]⟩::n34
theorem s35:PO n35:=st s34
def n36:List CM.KE:=⟨242,[.str [98]],[],.bool false,[]⟩::n35
theorem s36:PO n36:=st s35
def n37:List CM.KE:=⟨242,[.str [99]],[],.bool false,[]⟩::n36
theorem s37:PO n37:=st s36
def n38:List CM.KE:=⟨242,[.str [100]],[],.bool false,[]⟩::n37
theorem s38:PO n38:=st s37
def n39:List CM.KE:=⟨242,[.str [112]],[],.bool false,[]⟩::n38
theorem s39:PO n39:=st s38
def n40:List CM.KE:=⟨242,[.str [114]],[],.bool false,[]⟩::n39
theorem s40:PO n40:=st s39
def n41:List CM.KE:=⟨242,[.str [116]],[],.bool false,[]⟩::n40
theorem s41:PO n41:=st s40
def n42:List CM.KE:=⟨199,[.agg [I 30,S 1 4 4 1,S 2 1 1 4,N,S 3 1 1 4,S 4 1 1 5,N]],[[.str [97],.str [98],.str [99],.str [100]],[.str [112],.str [99],.str [100],I 4],[.str [114],S 5 3 3 1,S 6 2 2 1,S 7 1 1 1],[.str [116],.str [114],I 1,I 10,I 40],[.str [97],.str [98],.str [99]],[I 5,I 3],[I 2]],S 8 8 8 1,[[I 30,I 4,I 5,I 3,I 2,I 1,I 10,I 40]]⟩::n41
theorem s42:PO n42:=st s41
def n43:List CM.KE:=⟨137,[.agg [I 30,S 1 4 4 1,S 2 1 1 4,N,S 3 1 1 4,S 4 1 1 5,N]],[[.str [97],.str [98],.str [99],.str [100]],[.str [112],.str [99],.str [100],I 4],[.str [114],S 5 3 3 1,S 6 2 2 1,S 7 1 1 1],[.str [116],.str [114],I 1,I 10,I 40],[.str [97],.str [98],.str [99]],[I 5,I 3],[I 2]],I 0,[]⟩::n42
theorem s43:PO n43:=st s42
def n44:List CM.KE:=⟨200,[.agg [I 30,S 1 4 4 1,S 2 1 1 4,N,S 3 1 1 4,S 4 1 1 5,N]],[[.str [97],.str [98],.str [99],.str [100]],[.str [112],.str [99],.str [100],I 4],[.str [114],S 5 3 3 1,S 6 2 2 1,S 7 1 1 1],[.str [116],.str [114],I 1,I 10,I 40],[.str [97],.str [98],.str [99]],[I 5,I 3],[I 2]],.agg [S 8 4 4 1,S 9 1 1 1,N,S 10 1 1 1,S 11 1 1 1,N],[[.str [97],.str [98],.str [99],.str [100]],[.str [112]],[.str [114]],[.str [116]]]⟩::n43
theorem s44:PO n44:=st s43
def n45:List CM.KE:=⟨138,[.agg [I 30,S 1 4 4 1,S 2 1 1 4,N,S 3 1 1 4,S 4 1 1 5,N]],[[.str [97],.str [98],.str [99],.str [100]],[.str [112],.str [99],.str [100],I 4],[.str [114],S 5 3 3 1,S 6 2 2 1,S 7 1 1 1],[.str [116],.str [114],I 1,I 10,I 40],[.str [97],.str [98],.str [99]],[I 5,I 3],[I 2]],.agg [I 30,S 8 4 4 1,S 9 1 1 1,N,S 10 1 1 1,S 11 1 1 1,N,S 12 1 1 3,N,S 13 1 1 3,S 14 1 1 4,N],[[.str [97],.str [98],.str [99],.str [100]],[.str [112]],[.str [114]],[.str [116]],[I 2,I 3,I 4],[S 15 3 3 1,S 16 2 2 1,S 17 1 1 1],[I 0,I 1,I 10,I 40],[I 0,I 1,I 2],[I 5,I 3],[I 2]]⟩::n44
theorem s45:PO n45:=st s44
def n46:List CM.KE:=⟨139,[.agg [S 1 4 4 1,S 2 1 1 1,N,S 3 1 1 1,S 4 1 1 1,N]],[[.str [97],.str [98],.str [99],.str [100]],[.str [112]],[.str [114]],[.str [116]]],.agg [I 0,I 0,I 0],[]⟩::n45
theorem s46:PO n46:=st s45
def n47:List CM.KE:=⟨204,[.agg [S 1 3 3 1,S 2 2 2 1,S 3 1 1 1]],[[I 0,I 1,I 2],[I 5,I 3],[I 2]],I 0,[]⟩::n46
theorem s47:PO n47:=st s46
def n48:List CM.KE:=⟨140,[.agg [I 30,S 1 4 4 1,S 2 1 1 1,N,S 3 1 1 1,S 4 1 1 1,N,S 5 1 1 3,N,S 6 1 1 3,S 7 1 1 4,N]],[[.str [97],.str [98],.str [99],.str [100]],[.str [112]],[.str [114]],[.str [116]],[I 2,I 3,I 4],[S 8 3 3 1,S 9 2 2 1,S 10 1 1 1],[I 0,I 1,I 10,I 40],[I 0,I 1,I 2],[I 5,I 3],[I 2]],.agg [I 0,I 0,I 0],[]⟩::n47
theorem s48:PO n48:=st s47
def n49:List CM.KE:=⟨115,[.agg [I 30,S 1 4 4 0,S 2 1 1 0,N,S 3 1 1 0,S 4 1 1 0,N,S 5 1 1 0,N,S 6 1 1 0,S 7 1 1 0,N],I 0,I 2],[[.str [97],.str [98],.str [99],.str [100]],[.str [112]],[.str [114]],[.str [116]],[I 2,I 3,I 4],[S 8 3 3 0,S 9 2 2 0,S 10 1 1 0],[I 0,I 1,I 10,I 40],[I 0,I 1,I 2],[I 5,I 3],[I 2]],.tup [.agg [I 0,I 2,S 11 3 3 1,S 12 3 3 1],.bool false],[[I 21,I 26,I 31],[I 21,I 28,I 31]]⟩::n48
theorem s49:PO n49:=st s48
def n50:List CM.KE:=⟨115,[.agg [I 30,S 1 4 4 0,S 2 1 1 0,N,S 3 1 1 0,S 4 1 1 0,N,S 5 1 1 0,N,S 6 1 1 0,S 7 1 1 0,N],I 0,I 1],[[.str [97],.str [98],.str [99],.str [100]],[.str [112]],[.str [114]],[.str [116]],[I 2,I 3,I 4],[S 8 3 3 0,S 9 2 2 0,S 10 1 1 0],[I 0,I 1,I 10,I 40],[I 0,I 1,I 2],[I 5,I 3],[I 2]],.tup [.agg [I 0,I 1,S 11 3 3 1,S 12 3 3 1],.bool true],[[I 11,I 16,I 21],[I 11,I 18,I 21]]⟩::n49
theorem s50:PO n50:=st s49
def n51:List CM.KE:=⟨114,[.agg [I 30,S 1 4 4 0,S 2 1 1 0,N,S 3 1 1 0,S 4 1 1 0,N,S 5 1 1 0,N,S 6 1 1 0,S 7 1 1 0,N],I 0],[[.str [97],.str [98],.str [99],.str [100]],[.str [112]],[.str [114]],[.str [116]],[I 2,I 3,I 4],[S 8 3 3 0,S 9 2 2 0,S 10 1 1 0],[I 0,I 1,I 10,I 40],[I 0,I 1,I 2],[I 5,I 3],[I 2]],I 2,[]⟩::n50
theorem s51:PO n51:=st s50
def n52:List CM.KE:=⟨115,[.agg [I 30,S 1 4 4 0,S 2 1 1 0,N,S 3 1 1 0,S 4 1 1 0,N,S 5 1 1 0,N,S 6 1 1 0,S 7 1 1 0,N],I 0,I 0],[[.str [97],.str [98],.str [99],.str [100]],[.str [112]],[.str [114]],[.str [116]],[I 2,I 3,I 4],[S 8 3 3 0,S 9 2 2 0,S 10 1 1 0],[I 0,I 1,I 10,I 40],[I 0,I 1,I 2],[I 5,I 3],[I 2]],.tup [.agg [I 0,I 0,S 11 3 3 1,S 12 3 3 1],.bool true],[[I 1,I 6,I 11],[I 1,I 8,I 11]]⟩::n51
theorem s52:PO n52:=st s51
def n53:List CM.KE:=⟨46,[.agg [I 30,S 1 4 4 0,S 2 1 1 0,N,S 3 1 1 0,S 4 1 1 0,N,S 5 1 1 0,N,S 6 1 1 0,S 7 1 1 0,N]],[[.str [97],.str [98],.str [99],.str [100]],[.str [112]],[.str [114]],[.str [116]],[I 2,I 3,I 4],[S 8 3 3 0,S 9 2 2 0,S 10 1 1 0],[I 0,I 1,I 10,I 40],[I 0,I 1,I 2],[I 5,I 3],[I 2]],.tup [S 11 2 2 4,I 0],[[I 0,I 0,S 12 3 3 1,S 13 3 3 1,I 0,I 1,S 14 3 3 1,S 15 3 3 1],[I 1,I 6,I 11],[I 1,I 8,I 11],[I 11,I 16,I 21],[I 11,I 18,I 21]]⟩::n52
theorem s53:PO n53:=st s52
def n54:List CM.KE:=⟨240,[.agg [I 30,S 1 4 4 0,S 2 1 1 0,N,S 3 1 1 0,S 4 1 1 0,N,S 5 1 1 0,N,S 6 1 1 0,S 7 1 1 0,N,N,N]],[[.str [97],.str [98],.str [99],.str [100]],[.str [112]],[.str [114]],[.str [116]],[I 2,I 3,I 4],[S 8 3 3 0,S 9 2 2 0,S 10 1 1 0],[I 0,I 1,I 10,I 40],[I 0,I 1,I 2],[I 5,I 3],[I 2]],.agg [I 30,S 11 4 4 1,S 12 1 1 1,S 13 0 0 0,S 14 1 1 1,S 15 1 1 1,S 16 0 0 0,S 17 1 1 3,S 18 0 0 0,S 19 1 1 3,S 20 1 1 4,S 21 0 0 0,S 22 0 0 0,S 23 0 0 0],[[.str [97],.str [98],.str [99],.str [100]],[.str [112]],[],[.str [114]],[.str [116]],[],[I 2,I 3,I 4],[],[S 24 3 3 1,S 25 2 2 1,S 26 1 1 1],[I 0,I 1,I 10,I 40],[],[],[],[I 0,I 1,I 2],[I 5,I 3],[I 2]]⟩::n53
theorem s54:PO n54:=st s53
def n55:List CM.KE:=⟨141,[.agg [I 30,S 1 4 4 1,S 2 1 1 1,S 3 0 0 0,S 4 1 1 1,S 5 1 1 1,S 6 0 0 0,S 7 1 1 3,S 8 0 0 0,S 9 1 1 3,S 10 1 1 4,S 11 0 0 0]],[[.str [97],.str [98],.str [99],.str [100]],[.str [112]],[],[.str [114]],[.str [116]],[],[I 2,I 3,I 4],[],[S 12 3 3 1,S 13 2 2 1,S 14 1 1 1],[I 0,I 1,I 10,I 40],[],[I 0,I 1,I 2],[I 5,I 3],[I 2]],.bool true,[]⟩::n54
theorem s55:PO n55:=st s54
def n56:List CM.KE:=⟨143,[.agg [I 30,S 1 4 4 1,S 2 1 1 1,S 3 0 0 0,S 4 1 1 1,S 5 1 1 1,S 6 0 0 0,S 7 1 1 3,S 8 0 0 0,S 9 1 1 3,S 10 1 1 4,S 11 0 0 0]],[[.str [97],.str [98],.str [99],.str [100]],[.str [112]],[],[.str [114]],[.str [116]],[],[I 2,I 3,I 4],[],[S 12 3 3 1,S 13 2 2 1,S 14 1 1 1],[I 0,I 1,I 10,I 40],[],[I 0,I 1,I 2],[I 5,I 3],[I 2]],.agg [I 30,S 15 4 4 1,S 16 1 1 4,N,S 17 1 1 4,S 18 1 1 5,N],[[.str [97],.str [98],.str [99],.str [100]],[.str [112],.str [99],.str [100],I 4],[.str [114],S 19 3 3 1,S 20 2 2 1,S 21 1 1 1],[.str [116],.str [114],I 1,I 10,I 40],[.str [97],.str [98],.str [99]],[I 5,I 3],[I 2]]⟩::n55
theorem s56:PO n56:=st s55
def n57:List CM.KE:=⟨218,[.agg [I 30,S 1 4 4 1,S 2 1 1 4,N,S 3 1 1 4,S 4 1 1 5,N]],[[.str [97],.str [98],.str [99],.str [100]],[.str [112],.str [99],.str [100],I 4],[.str [114],S 5 3 3 1,S 6 2 2 1,S 7 1 1 1],[.str [116],.str [114],I 1,I 10,I 40],[.str [97],.str [98],.str [99]],[I 5,I 3],[I 2]],I 0,[]⟩::n56
theorem s57:PO n57:=st s56
def n58:List CM.KE:=⟨219,[.agg [I 30,S 1 4 4 1,S 2 1 1 4,N,S 3 1 1 4,S 4 1 1 5,N]],[[.str [97],.str [98],.str [99],.str [100]],[.str [112],.str [99],.str [100],I 4],[.str [114],S 5 3 3 1,S 6 2 2 1,S 7 1 1 1],[.str [116],.str [114],I 1,I 10,I 40],[.str [97],.str [98],.str [99]],[I 5,I 3],[I 2]],.agg [I 30,S 8 4 4 1,S 9 1 1 1,N,S 10 1 1 1,S 11 1 1 1,N,S 12 1 1 3,N,S 13 1 1 3,S 14 1 1 4,N],[[.str [97],.str [98],.str [99],.str [100]],[.str [112]],[.str [114]],[.str [116]],[I 2,I 3,I 4],[S 15 3 3 1,S 16 2 2 1,S 17 1 1 1],[I 0,I 1,I 10,I 40],[I 0,I 1,I 2],[I 5,I 3],[I 2]]⟩::n57
theorem s58:PO n58:=st s57
def n59:List CM.KE:=⟨220,[.ptr (some (1,0))],[[I 30,S 2 4 4 1,S 3 1 1 1,N,S 4 1 1 1,S 5 1 1 1,N,S 6 1 1 3,N,S 7 1 1 3,S 8 1 1 4,N],[.str [97],.str [98],.str [99],.str [100]],[.str [112]],[.str [114]],[.str [116]],[I 2,I 3,I 4],[S 9 3 3 1,S 10 2 2 1,S 11 1 1 1],[I 0,I 1,I 10,I 40],[I 0,I 1,I 2],[I 5,I 3],[I 2]],.agg [I 0,I 0,I 0],[]⟩::n58
theorem s59:PO n59:=st s58
def n60:List CM.KE:=⟨163,[.agg [I 30,S 1 4 4 1,S 2 1 1 1,S 3 0 0 0,S 4 1 1 1,S 5 1 1 1,S 6 0 0 0,S 7 1 1 3,S 8 0 0 0,S 9 1 1 3,S 10 1 1 4,S 11 0 0 0],I 0,I 2],[[.str [97],.str [98],.str [99],.str [100]],[.str [112]],[],[.str [114]],[.str [116]],[],[I 2,I 3,I 4],[],[S 12 3 3 1,S 13 2 2 1,S 14 1 1 1],[I 0,I 1,I 10,I 40],[],[I 0,I 1,I 2],[I 5,I 3],[I 2]],.tup [.agg [I 0,I 2,S 15 3 3 1,S 16 3 3 1],.bool false],[[I 21,I 26,I 31],[I 21,I 28,I 31]]⟩::n59
theorem s60:PO n60:=st s59
def n61:List CM.KE:=⟨163,[.agg [I 30,S 1 4 4 1,S 2 1 1 1,S 3 0 0 0,S 4 1 1 1,S 5 1 1 1,S 6 0 0 0,S 7 1 1 3,S 8 0 0 0,S 9 1 1 3,S 10 1 1 4,S 11 0 0 0],I 0,I 1],[[.str [97],.str [98],.str [99],.str [100]],[.str [112]],[],[.str [114]],[.str [116]],[],[I 2,I 3,I 4],[],[S 12 3 3 1,S 13 2 2 1,S 14 1 1 1],[I 0,I 1,I 10,I 40],[],[I 0,I 1,I 2],[I 5,I 3],[I 2]],.tup [.agg [I 0,I 1,S 15 3 3 1,S 16 3 3 1],.bool true],[[I 11,I 16,I 21],[I 11,I 18,I 21]]⟩::n60
theorem s61:PO n61:=st s60
def n62:List CM.KE:=⟨230,[.agg [I 30,S 1 4 4 1,S 2 1 1 1,S 3 0 0 0,S 4 1 1 1,S 5 1 1 1,S 6 0 0 0,S 7 1 1 3,S 8 0 0 0,S 9 1 1 3,S 10 1 1 4,S 11 0 0 0],I 0],[[.str [97],.str [98],.str [99],.str [100]],[.str [112]],[],[.str [114]],[.str [116]],[],[I 2,I 3,I 4],[],[S 12 3 3 1,S 13 2 2 1,S 14 1 1 1],[I 0,I 1,I 10,I 40],[],[I 0,I 1,I 2],[I 5,I 3],[I 2]],I 2,[]⟩::n61
theorem s62:PO n62:=st s61
def n63:List CM.KE:=⟨163,[.agg [I 30,S 1 4 4 1,S 2 1 1 1,S 3 0 0 0,S 4 1 1 1,S 5 1 1 1,S 6 0 0 0,S 7 1 1 3,S 8 0 0 0,S 9 1 1 3,S 10 1 1 4,S 11 0 0 0],I 0,I 0],[[.str [97],.str [98],.str [99],.str [100]],[.str [112]],[],[.str [114]],[.str [116]],[],[I 2,I 3,I 4],[],[S 12 3 3 1,S 13 2 2 1,S 14 1 1 1],[I 0,I 1,I 10,I 40],[],[I 0,I 1,I 2],[I 5,I 3],[I 2]],.tup [.agg [I 0,I 0,S 15 3 3 1,S 16 3 3 1],.bool true],[[I 1,I 6,I 11],[I 1,I 8,I 11]]⟩::n62
theorem s63:PO n63:=st s62
def n64:List CM.KE:=⟨100,[.agg [I 30,S 1 4 4 1,S 2 1 1 1,S 3 0 0 0,S 4 1 1 1,S 5 1 1 1,S 6 0 0 0,S 7 1 1 3,S 8 0 0 0,S 9 1 1 3,S 10 1 1 4,S 11 0 0 0]],[[.str [97],.str [98],.str [99],.str [100]],[.str [112]],[],[.str [114]],[.str [116]],[],[I 2,I 3,I 4],[],[S 12 3 3 1,S 13 2 2 1,S 14 1 1 1],[I 0,I 1,I 10,I 40],[],[I 0,I 1,I 2],[I 5,I 3],[I 2]],.tup [S 15 2 2 4,I 0],[[I 0,I 0,S 16 3 3 1,S 17 3 3 1,I 0,I 1,S 18 3 3 1,S 19 3 3 1],[I 1,I 6,I 11],[I 1,I 8,I 11],[I 11,I 16,I 21],[I 11,I 18,I 21]]⟩::n63
theorem s64:PO n64:=st s63
def n65:List CM.KE:=⟨36,[.agg [I 30,S 1 4 4 1,S 2 1 1 1,S 3 0 0 0,S 4 1 1 1,S 5 1 1 1,S 6 0 0 0,S 7 1 1 3,S 8 0 0 0,S 9 1 1 3,S 10 1 1 4,S 11 0 0 0,S 12 0 0 0,S 13 0 0 0]],[[.str [97],.str [98],.str [99],.str [100]],[.str [112]],[],[.str [114]],[.str [116]],[],[I 2,I 3,I 4],[],[S 14 3 3 1,S 15 2 2 1,S 16 1 1 1],[I 0,I 1,I 10,I 40],[],[],[],[I 0,I 1,I 2],[I 5,I 3],[I 2]],I 0,[]⟩::n64
theorem s65:PO n65:=st s64
def n66:List CM.KE:=⟨14,[.agg [I 30,S 1 4 4 1,S 2 1 1 1,S 3 0 0 0,S 4 1 1 1,S 5 1 1 1,S 6 0 0 0,S 7 1 1 3,S 8 0 0 0,S 9 1 1 3,S 10 1 1 4,S 11 0 0 0]],[[.str [97],.str [98],.str [99],.str [100]],[.str [112]],[],[.str [114]],[.str [116]],[],[I 2,I 3,I 4],[],[S 12 3 3 1,S 13 2 2 1,S 14 1 1 1],[I 0,I 1,I 10,I 40],[],[I 0,I 1,I 2],[I 5,I 3],[I 2]],.tup [.agg [I 30,S 15 4 4 1,S 16 2 2 7],I 0],[[N,N,N,N],[I 2,I 3,I 4,.bool false,I 0,N,N,I 3,I 2,I 4,.bool false,I 0,N,N]]⟩::n65
theorem s66:PO n66:=st s65
def n67:List CM.KE:=⟨112,[.agg [I 30,S 1 4 4 1,S 2 1 1 1,S 3 0 0 0,S 4 1 1 1,S 5 1 1 1,S 6 0 0 0,S 7 1 1 3,S 8 0 0 0,S 9 1 1 3,S 10 1 1 4,S 11 0 0 0,S 12 0 0 0,S 13 0 0 0],.agg [I 0,I 0]],[[.str [97],.str [98],.str [99],.str [100]],[.str [112]],[],[.str [114]],[.str [116]],[],[I 2,I 3,I 4],[],[S 14 3 3 1,S 15 2 2 1,S 16 1 1 1],[I 0,I 1,I 10,I 40],[],[],[],[I 0,I 1,I 2],[I 5,I 3],[I 2]],.tup [.agg [I 0,I 0,S 17 3 3 1,S 18 3 3 1],.bool true],[[I 1,I 6,I 11],[I 1,I 8,I 11]]⟩::n66
theorem s67:PO n67:=st s66
def n68:List CM.KE:=⟨42,[.agg [I 30,S 1 4 4 1,S 2 1 1 1,S 3 0 0 0,S 4 1 1 1,S 5 1 1 1,S 6 0 0 0,S 7 1 1 3,S 8 0 0 0,S 9 1 1 3,S 10 1 1 4,S 11 0 0 0,S 12 0 0 0,S 13 0 0 0],.agg [I 0,I 0]],[[.str [97],.str [98],.str [99],.str [100]],[.str [112]],[],[.str [114]],[.str [116]],[],[I 2,I 3,I 4],[],[S 14 3 3 1,S 15 2 2 1,S 16 1 1 1],[I 0,I 1,I 10,I 40],[],[],[],[I 0,I 1,I 2],[I 5,I 3],[I 2]],.tup [.agg [I 0,I 0,S 17 3 3 1,S 18 3 3 1],I 0],[[I 1,I 6,I 11],[I 1,I 8,I 11]]⟩::n67
theorem s68:PO n68:=st s67
def n69:List CM.KE:=⟨15,[.agg [I 30,S 1 4 4 1,S 2 2 2 7]],[[N,N,N,N],[I 2,I 3,I 4,.bool false,I 0,N,N,I 3,I 2,I 4,.bool false,I 0,N,N]],I 0,[]⟩::n68
theorem s69:PO n69:=st s68
def n70:List CM.KE:=⟨81,[N,I 1],[],.bool false,[]⟩::n69
theorem s70:PO n70:=st s69
def n71:List CM.KE:=⟨55,[.agg [I 30,S 1 4 4 1,S 2 1 1 1,S 3 0 0 0,S 4 1 1 1,S 5 1 1 1,S 6 0 0 0,S 7 1 1 3,S 8 0 0 0,S 9 1 1 3,S 10 1 1 4,S 11 0 0 0,S 12 0 0 0,S 13 0 0 0],.agg [I 0,I 0,S 14 2 2 0]],[[.str [97],.str [98],.str [99],.str [100]],[.str [112]],[],[.str [114]],[.str [116]],[],[I 2,I 3,I 4],[],[S 15 3 3 1,S 16 2 2 1,S 17 1 1 1],[I 0,I 1,I 10,I 40],[],[],[],[I (-1),I 0,I 0,I 0,I 0,I 2,I 0,I 11,I 0,I 0,I 0,I 0],[I 0,I 1,I 2],[I 5,I 3],[I 2]],.tup [I 3,.agg [I 15,I 1],I 0],[]⟩::n70
theorem s71:PO n71:=st s70
def n72:List CM.KE:=⟨55,[.agg [I 30,S 1 4 4 1,S 2 1 1 1,S 3 0 0 0,S 4 1 1 1,S 5 1 1 1,S 6 0 0 0,S 7 1 1 3,S 8 0 0 0,S 9 1 1 3,S 10 1 1 4,S 11 0 0 0,S 12 0 0 0,S 13 0 0 0],.agg [I 0,I 0,S 14 2 2 0]],[[.str [97],.str [98],.str [99],.str [100]],[.str [112]],[],[.str [114]],[.str [116]],[],[I 2,I 3,I 4],[],[S 15 3 3 1,S 16 2 2 1,S 17 1 1 1],[I 0,I 1,I 10,I 40],[],[],[],[I (-1),I 0,I 0,I 0,I 0,I 2,I 0,I 10,I 0,I 0,I 0,I 0],[I 0,I 1,I 2],[I 5,I 3],[I 2]],.tup [I 0,.agg [I 0,I 0],I 8],[]⟩::n71
theorem s72:PO n72:=st s71
theorem lives23_known:KO lives23E:=en s72
theorem fields_known:KO fieldsE:=en s72
theorem a {α:Type} {P:α->Prop} {p:α} {l:List α} (h:P p) (t:∀q∈l,P q):∀q∈p::l,P q:=λq hq=>(List.mem_cons.1 hq).elim (λe=>e▸h) (t q)
theorem an {α:Type} {P:α->Prop}:∀q∈([]:List α),P q:=λq h=>by cases h
def TP (p:Nat×CM.TyS):Prop:=CM.tyOf Tryz.prog p.1 p.2.cmp=some p.2/\(p.2.cmp=true->CM.cmpB Tryz.prog p.1=true)
def FP (p:Nat×CM.FnS):Prop:=∃fn,Tryz.prog.funcs[p.1]? =some fn/\p.2=CM.fnOf fn/\CM.fnGood fn=true
theorem t {n:Nat} {s:CM.TyS} (e:s.cmp=false:=by rfl) (h:CM.tyOf Tryz.prog n s.cmp=some s:=by kernel_rfl):TP (n,s):=⟨h,λc=>by rw[show(n,s).2.cmp=false from e]at c;cases c⟩
theorem u {n:Nat} {s:CM.TyS} (h:CM.tyOf Tryz.prog n s.cmp=some s:=by kernel_rfl) (k:CM.cmpB Tryz.prog n=true:=by kernel_rfl):TP (n,s):=⟨h,λ_=>k⟩
theorem f {n:Nat} {g:Func} (h:Tryz.prog.funcs[n]? =some g) (k:CM.fnGood g=true:=by kernel_rfl):FP (n,CM.fnOf g):=⟨g,h,rfl,k⟩
theorem tys_good:∀p∈tyL,TP p:=by
 unfold tyL
 exact a t<|a t<|a t<|a t<|a t<|a t<|a t<|a t<|a t<|a t<|a t<|a t<|a t<|a t<|a t<|a t<|a t<|a t<|a t<|a u<|a t<|a u<|a t<|a t<|a u<|a t<|a u<|a t<|a u<|a u<|a t<|a t<|a t<|a u<|a u<|a t<|a t<|a t<|a t<|a t<|a t<|a t<|a t<|a t<|a t<|a t<|a t<|a u<|a t<|a u<|a t<|a t<|a t<|a t<|a t<|a t<|a t<|a u<|a t<|a t<|a t<|a t<|a t<|a t<|a t<|a t<|a t<|a t<|a t<|a t<|a u<|a t<|a t<|a t<|a t<|a t<|a t<|a t<|a t<|a t<|a t<|a t<|a t<|a t<|a t<|a t<|a t<|a t<|a t<|a t<|a t<|a t<|a t<|a t<|a t<|a t<|a t<|a t<|a t<|a t<|a t<|a t<|a t<|a t<|a t<|a t<|a t<|a t<|a t<|a t<|a t<|a t<|a t<|a t<|a t<|a t<|a t<|a t<|a t<|a t<|an
open Tryz in
theorem fns_small:∀p∈fnL,FP p:=by
 unfold fnL
 exact a (f func3)<|a (f func4)<|a (f func5)<|a (f func6)<|a (f func7)<|a (f func8)<|a (f func9)<|a (f func10)<|a (f func12)<|a (f func13)<|a (f func14)<|a (f func15)<|a (f func16)<|a (f func17)<|a (f func18)<|a (f func19)<|a (f func20)<|a (f func21)<|a (f func22)<|a (f func23)<|a (f func24)<|a (f func25)<|a (f func26)<|a (f func27)<|a (f func28)<|a (f func29)<|a (f func30)<|a (f func31)<|a (f func32)<|a (f func33)<|a (f func35)<|a (f func36)<|a (f func37)<|a (f func38)<|a (f func39)<|a (f func40)<|a (f func41)<|a (f func42)<|a (f func43)<|a (f func44)<|a (f func45)<|a (f func46)<|a (f func47)<|a (f func48)<|a (f func49)<|a (f func50)<|a (f func51)<|a (f func52)<|a (f func54)<|a (f func55)<|a (f func56)<|a (f func57)<|a (f func58)<|a (f func59)<|a (f func61)<|a (f func62)<|a (f func63)<|a (f func64)<|a (f func65)<|a (f func66)<|a (f func67)<|a (f func68)<|a (f func69)<|a (f func70)<|a (f func71)<|a (f func72)<|a (f func73)<|a (f func74)<|a (f func75)<|a (f func76)<|a (f func77)<|a (f func78)<|a (f func79)<|a (f func80)<|a (f func81)<|a (f func82)<|a (f func83)<|a (f func84)<|a (f func85)<|a (f func86)<|a (f func87)<|a (f func88)<|a (f func89)<|a (f func90)<|a (f func91)<|a (f func92)<|a (f func93)<|a (f func94)<|a (f func95)<|a (f func96)<|a (f func97)<|a (f func98)<|a (f func99)<|a (f func100)<|a (f func101)<|a (f func102)<|a (f func103)<|a (f func104)<|a (f func105)<|a (f func106)<|a (f func107)<|a (f func108)<|a (f func109)<|a (f func110)<|a (f func111)<|a (f func112)<|a (f func113)<|a (f func114)<|a (f func115)<|a (f func116)<|a (f func117)<|a (f func118)<|a (f func119)<|a (f func120)<|a (f func121)<|a (f func122)<|a (f func123)<|a (f func124)<|a (f func125)<|a (f func126)<|a (f func127)<|a (f func128)<|a (f func129)<|a (f func130)<|a (f func131)<|a (f func132)<|a (f func133)<|a (f func134)<|a (f func135)<|a (f func136)<|a (f func137)<|a (f func138)<|a (f func139)<|a (f func140)<|a (f func141)<|a (f func142)<|a (f func143)<|a (f func144)<|a (f func145)<|a (f func146)<|a (f func147)<|a (f func148)<|a (f func149)<|a (f func150)<|a (f func151)<|a (f func152)<|a (f func153)<|a (f func154)<|a (f func155)<|a (f func156)<|a (f func157)<|a (f func158)<|a (f func159)<|a (f func160)<|a (f func161)<|a (f func162)<|a (f func163)<|a (f func164)<|a (f func165)<|a (f func166)<|a (f func167)<|a (f func168)<|a (f func169)<|a (f func170)<|a (f func171)<|a (f func172)<|a (f func173)<|a (f func174)<|a (f func175)<|a (f func176)<|a (f func177)<|a (f func178)<|a (f func179)<|a (f func180)<|a (f func181)<|a (f func182)<|a (f func183)<|a (f func184)<|a (f func185)<|a (f func186)<|a (f func187)<|a (f func188)<|a (f func189)<|a (f func190)<|a (f func191)<|a (f func192)<|a (f func193)<|a (f func194)<|a (f func195)<|a (f func196)<|a (f func197)<|a (f func198)<|a (f func199)<|a (f func200)<|a (f func201)<|a (f func202)<|a (f func203)<|a (f func204)<|a (f func205)<|a (f func206)<|a (f func207)<|a (f func208)<|a (f func209)<|a (f func210)<|a (f func211)<|a (f func212)<|a (f func213)<|a (f func214)<|a (f func215)<|a (f func216)<|a (f func217)<|a (f func218)<|a (f func219)<|a (f func220)<|a (f func221)<|a (f func222)<|a (f func223)<|a (f func224)<|a (f func225)<|a (f func226)<|a (f func227)<|a (f func228)<|a (f func229)<|a (f func230)<|a (f func231)<|a (f func232)<|a (f func233)<|a (f func234)<|a (f func235)<|a (f func236)<|a (f func237)<|a (f func238)<|a (f func239)<|a (f func240)<|a (f func241)<|a (f func242)<|a (f func243)<|a (f func244)<|a (f func245)<|a (f func246)<|a (f func247)<|a (f func248)<|a (f func249)<|a (f func250)<|a (f func251)<|a (f func252)<|a (f func253)<|a (f func254)<|a (f func255)<|a (f func256)<|a (f func257)<|a (f func258)<|a (f func259)<|a (f func260)<|a (f func261)<|a (f func262)<|a (f func263)<|a (f func264)<|a (f func265)<|a (f func266)<|a (f func267)<|a (f func268)<|a (f func269)<|a (f func270)<|a (f func271)<|a (f func272)<|a (f func273)<|a (f func274)<|a (f func275)<|a (f func276)<|a (f func277)<|a (f func278)<|a (f func279)<|a (f func280)<|a (f func281)<|a (f func282)<|a (f func283)<|a (f func284)<|a (f func285)<|a (f func286)<|a (f func287)<|a (f func288)<|a (f func289)<|a (f func290)<|a (f func291)<|a (f func292)<|a (f func293)<|a (f func294)<|a (f func295)<|a (f func296)<|a (f func297)<|a (f func298)<|a (f func299)<|a (f func300)<|a (f func301)<|a (f func302)<|a (f func303)<|a (f func304)<|a (f func305)<|a (f func306)<|a (f func307)<|a (f func308)<|a (f func309)<|a (f func310)<|a (f func311)<|a (f func312)<|a (f func313)<|a (f func314)<|a (f func316)<|a (f func337)<|a (f func338)<|an
end Kn
theorem envW1:CM.EnvW Tryz.prog E1:=CM.envW_small2 Kn.tys_good Kn.fns_small Kn.mixed Kn.rows_good (λe he=>by
 simp only[known,List.mem_cons,List.not_mem_nil,or_false]at he
 rcases he with rfl|rfl|rfl|rfl
 ·exact Kn.lives11_known
 ·exact Kn.lives16_known
 ·exact Kn.lives23_known
 ·exact Kn.fields_known)
end
end Go.Proofs.YtnjkaahbhebaeaaGreatDoor

namespace Go.Proofs.YtnjkaahbhebaeaaGreatDoor
open Go Go.CM Go.CM.Tt
noncomputable section
set_option maxRecDepth 100000
theorem row_low:∀r∈rows,r.1<nglob:=by
 intro r hr;have hr:r∈[(0,ascii.map (CM.CV.int .u8))]:=hr;rw[List.mem_singleton]at hr;rw[hr];decide
theorem fresh_of (blks:List (List CV)):Fresh (heapOf nglob rows blks):=λk hk=>by
 rw[heapOf_next]at hk;cases hg:(heapOf nglob rows blks).get k with
 |none=>rfl
 |some b=>
  rcases heapOf_get hg with⟨n,cs,rfl,hn,_⟩|⟨cs,hm,_⟩
  ·have:=(List.getElem?_eq_some_iff.1 hn).1
   omega
  ·have:=row_low _ hm
   simp only at this;omega
theorem rh_of (blks:List (List CV)):RH (heapOf nglob rows blks):=⟨rows_at (by decide) (by kernel_rfl),λr hr=>by
 rw[heapOf_next];have:=row_low r hr;omega⟩
end
end Go.Proofs.YtnjkaahbhebaeaaGreatDoor
