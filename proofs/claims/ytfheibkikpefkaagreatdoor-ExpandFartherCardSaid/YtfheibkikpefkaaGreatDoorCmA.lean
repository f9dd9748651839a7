/- A plain machine for Go's code: its values, its memory, what a type's row says. No condition. -/
import GoSem.Step
set_option linter.unusedVariables false
set_option linter.unusedSimpArgs false
noncomputable section
namespace Go.CM
inductive Tree (α:Type) where
 |leaf
 |node (l:Tree α) (v:Option α) (r:Tree α)
def bitsF (n:Nat):Nat->List Bool:=
 Nat.rec (λ_=>[]) (λ_ ih k=>Nat.rec [] (λk _=>Nat.beq (k%2) 0::ih (k/2)) k) n
def bits (k:Nat):List Bool:=bitsF (k+1) k
namespace Tree
variable {α:Type}
def getP (p:List Bool):Tree α->Option α:=
 List.rec (λt=>Tree.rec none (λ_ v _ _ _=>v) t) (λb _ ih t=>Tree.rec none (λl _ r _ _=>Bool.rec (ih r) (ih l) b) t) p
def setP (x:Option α) (p:List Bool):Tree α->Tree α:=
 List.rec (λt=>Tree.rec (.node .leaf x .leaf) (λl _ r _ _=> .node l x r) t)
  (λb _ ih t=>Tree.rec (Bool.rec (.node .leaf none (ih .leaf)) (.node (ih .leaf) none .leaf) b) (λl v r _ _=>Bool.rec (.node l v (ih r)) (.node (ih l) v r) b) t) p
def get (t:Tree α) (k:Nat):Option α:=getP (bits k) t
def set (t:Tree α) (k:Nat) (x:Option α):Tree α:=setP x (bits k) t
end Tree
inductive CV where
 |undef
 |bool (b:Bool)
 |int (k:IntKind) (n:Int)
 |str (s:List UInt8)
 |ptr (p:Option (Nat×Nat))
 |slice (p:Option (Nat×Nat)) (len cap:Nat) (x:Nat)
 /-- A slice that is not nil, of which no place is in use; where it begins is not known. -/
 |empty
 |map (r:Option Nat)
 |fn (f:FuncId) (first caps:List CV)
 |yield (l:Nat)
 |nilFunc
 |iface (t:TypeId) (v:CV)
 |nilIface
 |agg (cs:List CV)
 |tup (vs:List CV)
inductive NA where
 |mk (c0 c1 c2 c3 c4 c5 c6 c7 c8 c9 c10 c11 c12 c13 c14 c15:CV)
inductive Tm where
 |mk (c0 c1 c2 c3 c4 c5 c6 c7 c8 c9 c10 c11 c12 c13 c14 c15:NA) (rest:Tree CV)
inductive AccA where
 |mk (g:NA->CV) (s:CV->NA->NA)
inductive AccB where
 |mk (g:Tm->NA) (s:NA->Tm->Tm)
def NA.g0 (t:NA):CV:=match t with| .mk c0 c1 c2 c3 c4 c5 c6 c7 c8 c9 c10 c11 c12 c13 c14 c15=>c0
def NA.s0 (v:CV) (t:NA):NA:=match t with| .mk c0 c1 c2 c3 c4 c5 c6 c7 c8 c9 c10 c11 c12 c13 c14 c15=> .mk v c1 c2 c3 c4 c5 c6 c7 c8 c9 c10 c11 c12 c13 c14 c15
def Tm.g0 (t:Tm):NA:=match t with| .mk c0 c1 c2 c3 c4 c5 c6 c7 c8 c9 c10 c11 c12 c13 c14 c15 _=>c0
def Tm.s0 (v:NA) (t:Tm):Tm:=match t with| .mk c0 c1 c2 c3 c4 c5 c6 c7 c8 c9 c10 c11 c12 c13 c14 c15 r=> .mk v c1 c2 c3 c4 c5 c6 c7 c8 c9 c10 c11 c12 c13 c14 c15 r
def NA.g1 (t:NA):CV:=match t with| .mk c0 c1 c2 c3 c4 c5 c6 c7 c8 c9 c10 c11 c12 c13 c14 c15=>c1
def NA.s1 (v:CV) (t:NA):NA:=match t with| .mk c0 c1 c2 c3 c4 c5 c6 c7 c8 c9 c10 c11 c12 c13 c14 c15=> .mk c0 v c2 c3 c4 c5 c6 c7 c8 c9 c10 c11 c12 c13 c14 c15
def Tm.g1 (t:Tm):NA:=match t with| .mk c0 c1 c2 c3 c4 c5 c6 c7 c8 c9 c10 c11 c12 c13 c14 c15 _=>c1
def Tm.s1 (v:NA) (t:Tm):Tm:=match t with| .mk c0 c1 c2 c3 c4 c5 c6 c7 c8 c9 c10 c11 c12 c13 c14 c15 r=> .mk c0 v c2 c3 c4 c5 c6 c7 c8 c9 c10 c11 c12 c13 c14 c15 r
def NA.g2 (t:NA):CV:=match t with| .mk c0 c1 c2 c3 c4 c5 c6 c7 c8 c9 c10 c11 c12 c13 c14 c15=>c2
def NA.s2 (v:CV) (t:NA):NA:=match t with| .mk c0 c1 c2 c3 c4 c5 c6 c7 c8 c9 c10 c11 c12 c13 c14 c15=> .mk c0 c1 v c3 c4 c5 c6 c7 c8 c9 c10 c11 c12 c13 c14 c15
def Tm.g2 (t:Tm):NA:=match t with| .mk c0 c1 c2 c3 c4 c5 c6 c7 c8 c9 c10 c11 c12 c13 c14 c15 _=>c2
def Tm.s2 (v:NA) (t:Tm):Tm:=match t with| .mk c0 c1 c2 c3 c4 c5 c6 c7 c8 c9 c10 c11 c12 c13 c14 c15 r=> .mk c0 c1 v c3 c4 c5 c6 c7 c8 c9 c10 c11 c12 c13 c14 c15 r
def NA.g3 (t:NA):CV:=match t with| .mk c0 c1 c2 c3 c4 c5 c6 c7 c8 c9 c10 c11 c12 c13 c14 c15=>c3
def NA.s3 (v:CV) (t:NA):NA:=match t with| .mk c0 c1 c2 c3 c4 c5 c6 c7 c8 c9 c10 c11 c12 c13 c14 c15=> .mk c0 c1 c2 v c4 c5 c6 c7 c8 c9 c10 c11 c12 c13 c14 c15
def Tm.g3 (t:Tm):NA:=match t with| .mk c0 c1 c2 c3 c4 c5 c6 c7 c8 c9 c10 c11 c12 c13 c14 c15 _=>c3
def Tm.s3 (v:NA) (t:Tm):Tm:=match t with| .mk c0 c1 c2 c3 c4 c5 c6 c7 c8 c9 c10 c11 c12 c13 c14 c15 r=> .mk c0 c1 c2 v c4 c5 c6 c7 c8 c9 c10 c11 c12 c13 c14 c15 r
def NA.g4 (t:NA):CV:=match t with| .mk c0 c1 c2 c3 c4 c5 c6 c7 c8 c9 c10 c11 c12 c13 c14 c15=>c4
def NA.s4 (v:CV) (t:NA):NA:=match t with| .mk c0 c1 c2 c3 c4 c5 c6 c7 c8 c9 c10 c11 c12 c13 c14 c15=> .mk c0 c1 c2 c3 v c5 c6 c7 c8 c9 c10 c11 c12 c13 c14 c15
def Tm.g4 (t:Tm):NA:=match t with| .mk c0 c1 c2 c3 c4 c5 c6 c7 c8 c9 c10 c11 c12 c13 c14 c15 _=>c4
def Tm.s4 (v:NA) (t:Tm):Tm:=match t with| .mk c0 c1 c2 c3 c4 c5 c6 c7 c8 c9 c10 c11 c12 c13 c14 c15 r=> .mk c0 c1 c2 c3 v c5 c6 c7 c8 c9 c10 c11 c12 c13 c14 c15 r
def NA.g5 (t:NA):CV:=match t with| .mk c0 c1 c2 c3 c4 c5 c6 c7 c8 c9 c10 c11 c12 c13 c14 c15=>c5
def NA.s5 (v:CV) (t:NA):NA:=match t with| .mk c0 c1 c2 c3 c4 c5 c6 c7 c8 c9 c10 c11 c12 c13 c14 c15=> .mk c0 c1 c2 c3 c4 v c6 c7 c8 c9 c10 c11 c12 c13 c14 c15
def Tm.g5 (t:Tm):NA:=match t with| .mk c0 c1 c2 c3 c4 c5 c6 c7 c8 c9 c10 c11 c12 c13 c14 c15 _=>c5
def Tm.s5 (v:NA) (t:Tm):Tm:=match t with| .mk c0 c1 c2 c3 c4 c5 c6 c7 c8 c9 c10 c11 c12 c13 c14 c15 r=> .mk c0 c1 c2 c3 c4 v c6 c7 c8 c9 c10 c11 c12 c13 c14 c15 r
def NA.g6 (t:NA):CV:=match t with| .mk c0 c1 c2 c3 c4 c5 c6 c7 c8 c9 c10 c11 c12 c13 c14 c15=>c6
def NA.s6 (v:CV) (t:NA):NA:=match t with| .mk c0 c1 c2 c3 c4 c5 c6 c7 c8 c9 c10 c11 c12 c13 c14 c15=> .mk c0 c1 c2 c3 c4 c5 v c7 c8 c9 c10 c11 c12 c13 c14 c15
def Tm.g6 (t:Tm):NA:=match t with| .mk c0 c1 c2 c3 c4 c5 c6 c7 c8 c9 c10 c11 c12 c13 c14 c15 _=>c6
def Tm.s6 (v:NA) (t:Tm):Tm:=match t with| .mk c0 c1 c2 c3 c4 c5 c6 c7 c8 c9 c10 c11 c12 c13 c14 c15 r=> .mk c0 c1 c2 c3 c4 c5 v c7 c8 c9 c10 c11 c12 c13 c14 c15 r
def NA.g7 (t:NA):CV:=match t with| .mk c0 c1 c2 c3 c4 c5 c6 c7 c8 c9 c10 c11 c12 c13 c14 c15=>c7
def NA.s7 (v:CV) (t:NA):NA:=match t with| .mk c0 c1 c2 c3 c4 c5 c6 c7 c8 c9 c10 c11 c12 c13 c14 c15=> .mk c0 c1 c2 c3 c4 c5 c6 v c8 c9 c10 c11 c12 c13 c14 c15
def Tm.g7 (t:Tm):NA:=match t with| .mk c0 c1 c2 c3 c4 c5 c6 c7 c8 c9 c10 c11 c12 c13 c14 c15 _=>c7
def Tm.s7 (v:NA) (t:Tm):Tm:=match t with| .mk c0 c1 c2 c3 c4 c5 c6 c7 c8 c9 c10 c11 c12 c13 c14 c15 r=> .mk c0 c1 c2 c3 c4 c5 c6 v c8 c9 c10 c11 c12 c13 c14 c15 r
def NA.g8 (t:NA):CV:=match t with| .mk c0 c1 c2 c3 c4 c5 c6 c7 c8 c9 c10 c11 c12 c13 c14 c15=>c8
def NA.s8 (v:CV) (t:NA):NA:=match t with| .mk c0 c1 c2 c3 c4 c5 c6 c7 c8 c9 c10 c11 c12 c13 c14 c15=> .mk c0 c1 c2 c3 c4 c5 c6 c7 v c9 c10 c11 c12 c13 c14 c15
def Tm.g8 (t:Tm):NA:=match t with| .mk c0 c1 c2 c3 c4 c5 c6 c7 c8 c9 c10 c11 c12 c13 c14 c15 _=>c8
def Tm.s8 (v:NA) (t:Tm):Tm:=match t with| .mk c0 c1 c2 c3 c4 c5 c6 c7 c8 c9 c10 c11 c12 c13 c14 c15 r=> .mk c0 c1 c2 c3 c4 c5 c6 c7 v c9 c10 c11 c12 c13 c14 c15 r
def NA.g9 (t:NA):CV:=match t with| .mk c0 c1 c2 c3 c4 c5 c6 c7 c8 c9 c10 c11 c12 c13 c14 c15=>c9
def NA.s9 (v:CV) (t:NA):NA:=match t with| .mk c0 c1 c2 c3 c4 c5 c6 c7 c8 c9 c10 c11 c12 c13 c14 c15=> .mk c0 c1 c2 c3 c4 c5 c6 c7 c8 v c10 c11 c12 c13 c14 c15
def Tm.g9 (t:Tm):NA:=match t with| .mk c0 c1 c2 c3 c4 c5 c6 c7 c8 c9 c10 c11 c12 c13 c14 c15 _=>c9
def Tm.s9 (v:NA) (t:Tm):Tm:=match t with| .mk c0 c1 c2 c3 c4 c5 c6 c7 c8 c9 c10 c11 c12 c13 c14 c15 r=> .mk c0 c1 c2 c3 c4 c5 c6 c7 c8 v c10 c11 c12 c13 c14 c15 r
def NA.g10 (t:NA):CV:=match t with| .mk c0 c1 c2 c3 c4 c5 c6 c7 c8 c9 c10 c11 c12 c13 c14 c15=>c10
def NA.s10 (v:CV) (t:NA):NA:=match t with| .mk c0 c1 c2 c3 c4 c5 c6 c7 c8 c9 c10 c11 c12 c13 c14 c15=> .mk c0 c1 c2 c3 c4 c5 c6 c7 c8 c9 v c11 c12 c13 c14 c15
def Tm.g10 (t:Tm):NA:=match t with| .mk c0 c1 c2 c3 c4 c5 c6 c7 c8 c9 c10 c11 c12 c13 c14 c15 _=>c10
def Tm.s10 (v:NA) (t:Tm):Tm:=match t with| .mk c0 c1 c2 c3 c4 c5 c6 c7 c8 c9 c10 c11 c12 c13 c14 c15 r=> .mk c0 c1 c2 c3 c4 c5 c6 c7 c8 c9 v c11 c12 c13 c14 c15 r
def NA.g11 (t:NA):CV:=match t with| .mk c0 c1 c2 c3 c4 c5 c6 c7 c8 c9 c10 c11 c12 c13 c14 c15=>c11
def NA.s11 (v:CV) (t:NA):NA:=match t with| .mk c0 c1 c2 c3 c4 c5 c6 c7 c8 c9 c10 c11 c12 c13 c14 c15=> .mk c0 c1 c2 c3 c4 c5 c6 c7 c8 c9 c10 v c12 c13 c14 c15
def Tm.g11 (t:Tm):NA:=match t with| .mk c0 c1 c2 c3 c4 c5 c6 c7 c8 c9 c10 c11 c12 c13 c14 c15 _=>c11
def Tm.s11 (v:NA) (t:Tm):Tm:=match t with| .mk c0 c1 c2 c3 c4 c5 c6 c7 c8 c9 c10 c11 c12 c13 c14 c15 r=> .mk c0 c1 c2 c3 c4 c5 c6 c7 c8 c9 c10 v c12 c13 c14 c15 r
def NA.g12 (t:NA):CV:=match t with| .mk c0 c1 c2 c3 c4 c5 c6 c7 c8 c9 c10 c11 c12 c13 c14 c15=>c12
def NA.s12 (v:CV) (t:NA):NA:=match t with| .mk c0 c1 c2 c3 c4 c5 c6 c7 c8 c9 c10 c11 c12 c13 c14 c15=> .mk c0 c1 c2 c3 c4 c5 c6 c7 c8 c9 c10 c11 v c13 c14 c15
def Tm.g12 (t:Tm):NA:=match t with| .mk c0 c1 c2 c3 c4 c5 c6 c7 c8 c9 c10 c11 c12 c13 c14 c15 _=>c12
def Tm.s12 (v:NA) (t:Tm):Tm:=match t with| .mk c0 c1 c2 c3 c4 c5 c6 c7 c8 c9 c10 c11 c12 c13 c14 c15 r=> .mk c0 c1 c2 c3 c4 c5 c6 c7 c8 c9 c10 c11 v c13 c14 c15 r
def NA.g13 (t:NA):CV:=match t with| .mk c0 c1 c2 c3 c4 c5 c6 c7 c8 c9 c10 c11 c12 c13 c14 c15=>c13
def NA.s13 (v:CV) (t:NA):NA:=match t with| .mk c0 c1 c2 c3 c4 c5 c6 c7 c8 c9 c10 c11 c12 c13 c14 c15=> .mk c0 c1 c2 c3 c4 c5 c6 c7 c8 c9 c10 c11 c12 v c14 c15
def Tm.g13 (t:Tm):NA:=match t with| .mk c0 c1 c2 c3 c4 c5 c6 c7 c8 c9 c10 c11 c12 c13 c14 c15 _=>c13
def Tm.s13 (v:NA) (t:Tm):Tm:=match t with| .mk c0 c1 c2 c3 c4 c5 c6 c7 c8 c9 c10 c11 c12 c13 c14 c15 r=> .mk c0 c1 c2 c3 c4 c5 c6 c7 c8 c9 c10 c11 c12 v c14 c15 r
def NA.g14 (t:NA):CV:=match t with| .mk c0 c1 c2 c3 c4 c5 c6 c7 c8 c9 c10 c11 c12 c13 c14 c15=>c14
def NA.s14 (v:CV) (t:NA):NA:=match t with| .mk c0 c1 c2 c3 c4 c5 c6 c7 c8 c9 c10 c11 c12 c13 c14 c15=> .mk c0 c1 c2 c3 c4 c5 c6 c7 c8 c9 c10 c11 c12 c13 v c15
def Tm.g14 (t:Tm):NA:=match t with| .mk c0 c1 c2 c3 c4 c5 c6 c7 c8 c9 c10 c11 c12 c13 c14 c15 _=>c14
def Tm.s14 (v:NA) (t:Tm):Tm:=match t with| .mk c0 c1 c2 c3 c4 c5 c6 c7 c8 c9 c10 c11 c12 c13 c14 c15 r=> .mk c0 c1 c2 c3 c4 c5 c6 c7 c8 c9 c10 c11 c12 c13 v c15 r
def NA.g15 (t:NA):CV:=match t with| .mk c0 c1 c2 c3 c4 c5 c6 c7 c8 c9 c10 c11 c12 c13 c14 c15=>c15
def NA.s15 (v:CV) (t:NA):NA:=match t with| .mk c0 c1 c2 c3 c4 c5 c6 c7 c8 c9 c10 c11 c12 c13 c14 c15=> .mk c0 c1 c2 c3 c4 c5 c6 c7 c8 c9 c10 c11 c12 c13 c14 v
def Tm.g15 (t:Tm):NA:=match t with| .mk c0 c1 c2 c3 c4 c5 c6 c7 c8 c9 c10 c11 c12 c13 c14 c15 _=>c15
def Tm.s15 (v:NA) (t:Tm):Tm:=match t with| .mk c0 c1 c2 c3 c4 c5 c6 c7 c8 c9 c10 c11 c12 c13 c14 c15 r=> .mk c0 c1 c2 c3 c4 c5 c6 c7 c8 c9 c10 c11 c12 c13 c14 v r
def Tm.rest (t:Tm):Tree CV:=match t with| .mk c0 c1 c2 c3 c4 c5 c6 c7 c8 c9 c10 c11 c12 c13 c14 c15 r=>r
def Tm.setRest (r:Tree CV) (t:Tm):Tm:=match t with| .mk c0 c1 c2 c3 c4 c5 c6 c7 c8 c9 c10 c11 c12 c13 c14 c15 _=> .mk c0 c1 c2 c3 c4 c5 c6 c7 c8 c9 c10 c11 c12 c13 c14 c15 r
def accA:Nat->AccA
 |0=>⟨NA.g0,NA.s0⟩
 |1=>⟨NA.g1,NA.s1⟩
 |2=>⟨NA.g2,NA.s2⟩
 |3=>⟨NA.g3,NA.s3⟩
 |4=>⟨NA.g4,NA.s4⟩
 |5=>⟨NA.g5,NA.s5⟩
 |6=>⟨NA.g6,NA.s6⟩
 |7=>⟨NA.g7,NA.s7⟩
 |8=>⟨NA.g8,NA.s8⟩
 |9=>⟨NA.g9,NA.s9⟩
 |10=>⟨NA.g10,NA.s10⟩
 |11=>⟨NA.g11,NA.s11⟩
 |12=>⟨NA.g12,NA.s12⟩
 |13=>⟨NA.g13,NA.s13⟩
 |14=>⟨NA.g14,NA.s14⟩
 |_=>⟨NA.g15,NA.s15⟩
def accB:Nat->AccB
 |0=>⟨Tm.g0,Tm.s0⟩
 |1=>⟨Tm.g1,Tm.s1⟩
 |2=>⟨Tm.g2,Tm.s2⟩
 |3=>⟨Tm.g3,Tm.s3⟩
 |4=>⟨Tm.g4,Tm.s4⟩
 |5=>⟨Tm.g5,Tm.s5⟩
 |6=>⟨Tm.g6,Tm.s6⟩
 |7=>⟨Tm.g7,Tm.s7⟩
 |8=>⟨Tm.g8,Tm.s8⟩
 |9=>⟨Tm.g9,Tm.s9⟩
 |10=>⟨Tm.g10,Tm.s10⟩
 |11=>⟨Tm.g11,Tm.s11⟩
 |12=>⟨Tm.g12,Tm.s12⟩
 |13=>⟨Tm.g13,Tm.s13⟩
 |14=>⟨Tm.g14,Tm.s14⟩
 |_=>⟨Tm.g15,Tm.s15⟩
def AccA.get (a:AccA):NA->CV:=match a with| .mk g _=>g
def AccA.set (a:AccA):CV->NA->NA:=match a with| .mk _ s=>s
def AccB.get (a:AccB):Tm->NA:=match a with| .mk g _=>g
def AccB.set (a:AccB):NA->Tm->Tm:=match a with| .mk _ s=>s
def Tm.look (t:Tm) (k:Nat):CV:=match Nat.blt k 256 with
 |true=>(accA (k%16)).get ((accB (k/16)).get t)
 |false=>(t.rest.get k).getD .undef
def Tm.putv (t:Tm) (k:Nat) (v:CV):Tm:=match Nat.blt k 256 with
 |true=>(accB (k/16)).set ((accA (k%16)).set v ((accB (k/16)).get t)) t
 |false=>Tm.setRest (t.rest.set k (some v)) t
def Tm.get (t:Tm) (k:Nat):Option CV:=some (t.look k)
def Tm.set (t:Tm) (k:Nat) (x:Option CV):Tm:=t.putv k (x.getD .undef)
def NA.leaf:NA:= .mk .undef .undef .undef .undef .undef .undef .undef .undef .undef .undef .undef .undef .undef .undef .undef .undef
def Tm.leaf:Tm:= .mk NA.leaf NA.leaf NA.leaf NA.leaf NA.leaf NA.leaf NA.leaf NA.leaf NA.leaf NA.leaf NA.leaf NA.leaf NA.leaf NA.leaf NA.leaf NA.leaf .leaf
def CV.one:CV->Bool
 | .undef=>false
 | .agg _=>false
 | .tup _=>false
 |_=>true
def CV.cells:CV->Option (List CV)
 | .undef=>none
 | .tup _=>none
 | .agg cs=>some cs
 |v=>some [v]
structure ME where
 key:CV
 val:CV
 born:Nat
inductive Blk where
 |cells (cs:List CV) (ro:Bool)
 |map (es:List ME) (clock:Nat)
 |strIter (s:List UInt8) (pos:Nat)
 /-- A range over a function: its frame's temporaries, the loop's left sides, their assignment, the body; 0: ready, 1: busy, 2: done; what comes next. -/
 |loop (tm:Tm) (ps:List Nat) (asg body:Code) (st:Nat) (pend:Option Code)
structure Heap where
 t:Tree Blk
 next:Nat
 pan:Option CV
def Heap.get (h:Heap) (i:Nat):Option Blk:=h.t.get i
def Heap.put (h:Heap) (i:Nat) (b:Blk):Heap:=⟨h.t.set i (some b),h.next,h.pan⟩
def Heap.del (h:Heap) (i:Nat):Heap:=⟨h.t.set i none,h.next,h.pan⟩
def Heap.new (h:Heap) (b:Blk):Heap:=⟨h.t.set h.next (some b),h.next+1,h.pan⟩
inductive TyK where
 |bool
 |int (k:IntKind)
 |string
 |pointer (e:TypeId)
 |slice (e:TypeId)
 |array (n:Nat) (e:TypeId)
 |map (k e:TypeId)
 |struct (fs:List (TypeId×Nat))
 |func
 |iface
 |other
structure TyS where
 kind:TyK
 size:Nat
 bytes:Nat
 zero:List CV
 agg:Bool
 cmp:Bool
 meths:List (String×Option (FuncId×Bool))
structure FnS where
 ntmps:Nat
 results:List ResultVar
 body:Option Code
structure KE where
 f:Nat
 args:List CV
 blks:List (List CV)
 res:CV
 news:List (List CV)
structure Env where
 ty:Nat->Option TyS
 fn:Nat->Option FnS
 globs:Nat
 /-- Calls of which it is known what they give. -/
 known:List KE:=[]
 /-- What the program's own tables hold where they are. -/
 rows:List (Nat×List CV):=[]
def const1:Value->Option CV
 | .bool b=>some (.bool b)
 | .int k n=>some (.int k n)
 | .string s=>some (.str s.data.toList)
 | .pointer none=>some (.ptr none)
 | .slice none 0 0=>some (.slice none 0 0 0)
 | .map none=>some (.map none)
 | .nilFunc=>some .nilFunc
 | .nilIface=>some .nilIface
 |_=>none
def consts:List Value->Option (List CV)
 |[]=>some []
 |v::r=>match const1 v with
  |some c=>(consts r).map (c:: ·)
  |none=>none
def constCV (v:Value):Option CV:=
 match v with
 | .agg cs=>(consts cs.toList).map .agg
 |v=>const1 v
def cvOf (G:Nat) (tmps:Tm) (x:Operand):CV:=
 match x with
 | .tmp t=>(tmps.get t).getD .undef
 | .const v=>(constCV v).getD .undef
 | .global g=>match Nat.blt g G with
   |true=> .ptr (some (g,0))
   |false=> .undef
 | .func f=> .fn f [] []
def nth {α:Type} (l:List α):Nat->Option α:=
 List.rec (λ_=>none) (λc _ ih n=>Nat.rec (some c) (λn _=>ih n) n) l
def takeN {α:Type} (l:List α):Nat->Option (List α):=
 List.rec (λn=>Nat.rec (some []) (λ_ _=>none) n) (λc _ ih n=>Nat.rec (some []) (λn _=>(ih n).map (c:: ·)) n) l
def dropN {α:Type} (l:List α):Nat->Option (List α):=
 List.rec (λn=>Nat.rec (some []) (λ_ _=>none) n) (λc r ih n=>Nat.rec (some (c::r)) (λn _=>ih n) n) l
def cut {α:Type} (l:List α) (off n:Nat):Option (List α):=(dropN l off).bind λl=>takeN l n
def over {α:Type} (vs:List α):List α->Option (List α):=
 List.rec (λl=>some l) (λv _ ih l=>List.rec none (λ_ r _=>(ih r).map (v:: ·)) l) vs
def setAt {α:Type} (l:List α) (vs:List α):Nat->Option (List α):=
 List.rec (λn=>Nat.rec (over vs []) (λ_ _=>none) n) (λc r ih n=>Nat.rec (over vs (c::r)) (λn _=>(ih n).map (c:: ·)) n) l
def len {α:Type} (l:List α):Nat:=List.rec 0 (λ_ _ ih=>ih+1) l
def bytesEq:List UInt8->List UInt8->Bool
 |[],[]=>true
 |a::x,b::y=>match Nat.beq a.toNat b.toNat with
  |true=>bytesEq x y
  |false=>false
 |_,_=>false
def bytesLess:List UInt8->List UInt8->Bool
 |_,[]=>false
 |[],_::_=>true
 |a::x,b::y=>match Nat.blt a.toNat b.toNat with
  |true=>true
  |false=>match Nat.beq a.toNat b.toNat with
   |true=>bytesLess x y
   |false=>false
def kcode:IntKind->Nat
 | .i8=>0| .i16=>1| .i32=>2| .i64=>3| .u8=>4| .u16=>5| .u32=>6| .u64=>7
def kindEq (a b:IntKind):Bool:=Nat.beq (kcode a) (kcode b)
def intEq:Int->Int->Bool
 | .ofNat a,.ofNat b=>Nat.beq a b
 | .negSucc a,.negSucc b=>Nat.beq a b
 |_,_=>false
def intLe:Int->Int->Bool
 | .ofNat a,.ofNat b=>Nat.ble a b
 | .negSucc a,.negSucc b=>Nat.ble b a
 | .negSucc _,.ofNat _=>true
 | .ofNat _,.negSucc _=>false
def place (n:Int) (len:Nat):Option Nat:=
 match n with
 | .ofNat a=>match Nat.blt a len with
   |true=>some a
   |false=>none
 | .negSucc _=>none
def upto (n:Int) (len:Nat):Option Nat:=
 match n with
 | .ofNat a=>match Nat.ble a len with
   |true=>some a
   |false=>none
 | .negSucc _=>none
end Go.CM
