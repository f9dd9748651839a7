/- A plain machine for Go's code: its values, its memory, what a type's row says. No condition. -/
import GoSem.Step
set_option linter.unusedVariables false
set_option linter.unusedSimpArgs false
noncomputable section
namespace Go.CM
inductive Tree (α:Type) where
 |leaf
 |node (l:Tree α) (v:Option α) (r:Tree α)
def bitsF (n:Nat):Nat->List Bool:=
 Nat.rec (λ_=>[]) (λ_ ih k=>Nat.rec [] (λk _=>Nat.beq (k%2) 0::ih (k/2)) k) n
def bits (k:Nat):List Bool:=bitsF (k+1) k
namespace Tree
variable {α:Type}
def getP (p:List Bool):Tree α->Option α:=
 List.rec (λt=>Tree.rec none (λ_ v _ _ _=>v) t) (λb _ ih t=>Tree.rec none (λl _ r _ _=>Bool.rec (ih r) (ih l) b) t) p
def setP (x:Option α) (p:List Bool):Tree α->Tree α:=
 List.rec (λt=>Tree.rec (.node .leaf x .leaf) (λl _ r _ _=> .node l x r) t)
  (λb _ ih t=>Tree.rec (Bool.rec (.node .leaf none (ih .leaf)) (.node (ih .leaf) none .leaf) b) (λl v r _ _=>Bool.rec (.node l v (ih r)) (.node (ih l) v r) b) t) p
def get (t:Tree α) (k:Nat):Option α:=getP (bits k) t
def set (t:Tree α) (k:Nat) (x:Option α):Tree α:=setP x (bits k) t
end Tree
inductive CV where
 |undef
 |bool (b:Bool)
 |int (k:IntKind) (n:Int)
 |str (s:List UInt8)
 |ptr (p:Option (Nat×Nat))
 |slice (p:Option (Nat×Nat)) (len cap:Nat) (x:Nat)
 /-- A slice that is not nil, of which no place is in use; where it begins is not known. -/
 |empty
 |map (r:Option Nat)
 |fn (f:FuncId) (first caps:List CV)
 |yield (l:Nat)
 |nilFunc
 |iface (t:TypeId) (v:CV)
 |nilIface
 |agg (cs:List CV)
 |tup (vs:List CV)
inductive NA where
 |mk (c0 c1 c2 c3 c4 c5 c6 c7 c8 c9 c10 c11 c12 c13 c14 c15:CV)
inductive Tm where
 |mk (c0 c1 c2 c3 c4 c5 c6 c7 c8 c9 c10 c11 c12 c13 c14 c15:NA) (rest:Tree CV)
inductive AccA where
 |mk (g:NA->CV) (s:CV->NA->NA)
inductive AccB where
 |mk (g:Tm->NA) (s:NA->Tm->Tm)
def NA.g0 (t:NA):CV:=match t with| .mk c0 c1 c2 c3 c4 c5 c6 c7 c8 c9 c10 c11 c12 c13 c14 c15=>c0
def NA.s0 (v:CV) (t:NA):NA:=match t with| .mk c0 c1 c2 c3 c4 c5 c6 c7 c8 c9 c10 c11 c12 c13 c14 c15=> .mk v c1 c2 c3 c4 c5 c6 c7 c8 c9 c10 c11 c12 c13 c14 c15
def Tm.g0 (t:Tm):NA:=match t with| .mk c0 c1 c2 c3 c4 c5 c6 c7 c8 c9 c10 c11 c12 c13 c14 c15 _=>c0
def Tm.s0 (v:NA) (t:Tm):Tm:=match t with| .mk c0 c1 c2 c3 c4 c5 c6 c7 c8 c9 c10 c11 c12 c13 c14 c15 r=> .mk v c1 c2 c3 c4 c5 c6 c7 c8 c9 c10 c11 c12 c13 c14 c15 r
def NA.g1 (t:NA):CV:=match t with| .mk c0 c1 c2 c3 c4 c5 c6 c7 c8 c9 c10 c11 c12 c13 c14 c15=>c1
def NA.s1 (v:CV) (t:NA):NA:=match t with| .mk c0 c1 c2 c3 c4 c5 c6 c7 c8 c9 c10 c11 c12 c13 c14 c15=> .mk c0 v c2 c3 c4 c5 c6 c7 c8 c9 c10 c11 c12 c13 c14 c15
def Tm.g1 (t:Tm):NA:=match t with| .mk c0 c1 c2 c3 c4 c5 c6 c7 c8 c9 c10 c11 c12 c13 c14 c15 _=>c1
def Tm.s1 (v:NA) (t:Tm):Tm:=match t with| .mk c0 c1 c2 c3 c4 c5 c6 c7 c8 c9 c10 c11 c12 c13 c14 c15 r=> .mk c0 v c2 c3 c4 c5 c6 c7 c8 c9 c10 c11 c12 c13 c14 c15 r
def NA.g2 (t:NA):CV:=match t with| .mk c0 c1 c2 c3 c4 c5 c6 c7 c8 c9 c10 c11 c12 c13 c14 c15=>c2
def NA.s2 (v:CV) (t:NA):NA:=match t with| .mk c0 c1 c2 c3 c4 c5 c6 c7 c8 c9 c10 c11 c12 c13 c14 c15=> .mk c0 c1 v c3 c4 c5 c6 c7 c8 c9 c10 c11 c12 c13 c14 c15
def Tm.g2 (t:Tm):NA:=match t with| .mk c0 c1 c2 c3 c4 c5 c6 c7 c8 c9 c10 c11 c12 c13 c14 c15 _=>c2
def Tm.s2 (v:NA) (t:Tm):Tm:=match t with| .mk c0 c1 c2 c3 c4 c5 c6 c7 c8 c9 c10 c11 c12 c13 c14 c15 r=> .mk c0 c1 v c3 c4 c5 c6 c7 c8 c9 c10 c11 c12 c13 c14 c15 r
def NA.g3 (t:NA):CV:=match t with| .mk c0 c1 c2 c3 c4 c5 c6 c7 c8 c9 c10 c11 c12 c13 c14 c15=>c3
def NA.s3 (v:CV) (t:NA):NA:=match t with| .mk c0 c1 c2 c3 c4 c5 c6 c7 c8 c9 c10 c11 c12 c13 c14 c15=> .mk c0 c1 c2 v c4 c5 c6 c7 c8 c9 c10 c11 c12 c13 c14 c15
def Tm.g3 (t:Tm):NA:=match t with| .mk c0 c1 c2 c3 c4 c5 c6 c7 c8 c9 c10 c11 c12 c13 c14 c15 _=>c3
def Tm.s3 (v:NA) (t:Tm):Tm:=match t with| .mk c0 c1 c2 c3 c4 c5 c6 c7 c8 c9 c10 c11 c12 c13 c14 c15 r=> .mk c0 c1 c2 v c4 c5 c6 c7 c8 c9 c10 c11 c12 c13 c14 c15 r
def NA.g4 (t:NA):CV:=match t with| .mk c0 c1 c2 c3 c4 c5 c6 c7 c8 c9 c10 c11 c12 c13 c14 c15=>c4
def NA.s4 (v:CV) (t:NA):NA:=match t with| .mk c0 c1 c2 c3 c4 c5 c6 c7 c8 c9 c10 c11 c12 c13 c14 c15=> .mk c0 c1 c2 c3 v c5 c6 c7 c8 c9 c10 c11 c12 c13 c14 c15
def Tm.g4 (t:Tm):NA:=match t with| .mk c0 c1 c2 c3 c4 c5 c6 c7 c8 c9 c10 c11 c12 c13 c14 c15 _=>c4
def Tm.s4 (v:NA) (t:Tm):Tm:=match t with| .mk c0 c1 c2 c3 c4 c5 c6 c7 c8 c9 c10 c11 c12 c13 c14 c15 r=> .mk c0 c1 c2 c3 v c5 c6 c7 c8 c9 c10 c11 c12 c13 c14 c15 r
def NA.g5 (t:NA):CV:=match t with| .mk c0 c1 c2 c3 c4 c5 c6 c7 c8 c9 c10 c11 c12 c13 c14 c15=>c5
def NA.s5 (v:CV) (t:NA):NA:=match t with| .mk c0 c1 c2 c3 c4 c5 c6 c7 c8 c9 c10 c11 c12 c13 c14 c15=> .mk c0 c1 c2 c3 c4 v c6 c7 c8 c9 c10 c11 c12 c13 c14 c15
def Tm.g5 (t:Tm):NA:=match t with| .mk c0 c1 c2 c3 c4 c5 c6 c7 c8 c9 c10 c11 c12 c13 c14 c15 _=>c5
def Tm.s5 (v:NA) (t:Tm):Tm:=match t with| .mk c0 c1 c2 c3 c4 c5 c6 c7 c8 c9 c10 c11 c12 c13 c14 c15 r=> .mk c0 c1 c2 c3 c4 v c6 c7 c8 c9 c10 c11 c12 c13 c14 c15 r
def NA.g6 (t:NA):CV:=match t with| .mk c0 c1 c2 c3 c4 c5 c6 c7 c8 c9 c10 c11 c12 c13 c14 c15=>c6
def NA.s6 (v:CV) (t:NA):NA:=match t with| .mk c0 c1 c2 c3 c4 c5 c6 c7 c8 c9 c10 c11 c12 c13 c14 c15=> .mk c0 c1 c2 c3 c4 c5 v c7 c8 c9 c10 c11 c12 c13 c14 c15
def Tm.g6 (t:Tm):NA:=match t with| .mk c0 c1 c2 c3 c4 c5 c6 c7 c8 c9 c10 c11 c12 c13 c14 c15 _=>c6
def Tm.s6 (v:NA) (t:Tm):Tm:=match t with| .mk c0 c1 c2 c3 c4 c5 c6 c7 c8 c9 c10 c11 c12 c13 c14 c15 r=> .mk c0 c1 c2 c3 c4 c5 v c7 c8 c9 c10 c11 c12 c13 c14 c15 r
def NA.g7 (t:NA):CV:=match t with| .mk c0 c1 c2 c3 c4 c5 c6 c7 c8 c9 c10 c11 c12 c13 c14 c15=>c7
def NA.s7 (v:CV) (t:NA):NA:=match t with| .mk c0 c1 c2 c3 c4 c5 c6 c7 c8 c9 c10 c11 c12 c13 c14 c15=> .mk c0 c1 c2 c3 c4 c5 c6 v c8 c9 c10 c11 c12 c13 c14 c15
def Tm.g7 (t:Tm):NA:=match t with| .mk c0 c1 c2 c3 c4 c5 c6 c7 c8 c9 c10 c11 c12 c13 c14 c15 _=>c7
def Tm.s7 (v:NA) (t:Tm):Tm:=match t with| .mk c0 c1 c2 c3 c4 c5 c6 c7 c8 c9 c10 c11 c12 c13 c14 c15 r=> .mk c0 c1 c2 c3 c4 c5 c6 v c8 c9 c10 c11 c12 c13 c14 c15 r
def NA.g8 (t:NA):CV:=match t with| .mk c0 c1 c2 c3 c4 c5 c6 c7 c8 c9 c10 c11 c12 c13 c14 c15=>c8
def NA.s8 (v:CV) (t:NA):NA:=match t with| .mk c0 c1 c2 c3 c4 c5 c6 c7 c8 c9 c10 c11 c12 c13 c14 c15=> .mk c0 c1 c2 c3 c4 c5 c6 c7 v c9 c10 c11 c12 c13 c14 c15
def Tm.g8 (t:Tm):NA:=match t with| .mk c0 c1 c2 c3 c4 c5 c6 c7 c8 c9 c10 c11 c12 c13 c14 c15 _=>c8
def Tm.s8 (v:NA) (t:Tm):Tm:=match t with| .mk c0 c1 c2 c3 c4 c5 c6 c7 c8 c9 c10 c11 c12 c13 c14 c15 r=> .mk c0 c1 c2 c3 c4 c5 c6 c7 v c9 c10 c11 c12 c13 c14 c15 r
def NA.g9 (t:NA):CV:=match t with| .mk c0 c1 c2 c3 c4 c5 c6 c7 c8 c9 c10 c11 c12 c13 c14 c15=>c9
def NA.s9 (v:CV) (t:NA):NA:=match t with| .mk c0 c1 c2 c3 c4 c5 c6 c7 c8 c9 c10 c11 c12 c13 c14 c15=> .mk c0 c1 c2 c3 c4 c5 c6 c7 c8 v c10 c11 c12 c13 c14 c15
def Tm.g9 (t:Tm):NA:=match t with| .mk c0 c1 c2 c3 c4 c5 c6 c7 c8 c9 c10 c11 c12 c13 c14 c15 _=>c9
def Tm.s9 (v:NA) (t:Tm):Tm:=match t with| .mk c0 c1 c2 c3 c4 c5 c6 c7 c8 c9 c10 c11 c12 c13 c14 c15 r=> .mk c0 c1 c2 c3 c4 c5 c6 c7 c8 v c10 c11 c12 c13 c14 c15 r
def NA.g10 (t:NA):CV:=match t with| .mk c0 c1 c2 c3 c4 c5 c6 c7 c8 c9 c10 c11 c12 c13 c14 c15=>c10
def NA.s10 (v:CV) (t:NA):NA:=match t with| .mk c0 c1 c2 c3 c4 c5 c6 c7 c8 c9 c10 c11 c12 c13 c14 c15=> .mk c0 c1 c2 c3 c4 c5 c6 c7 c8 c9 v c11 c12 c13 c14 c15
def Tm.g10 (t:Tm):NA:=match t with| .mk c0 c1 c2 c3 c4 c5 c6 c7 c8 c9 c10 c11 c12 c13 c14 c15 _=>c10
def Tm.s10 (v:NA) (t:Tm):Tm:=match t with| .mk c0 c1 c2 c3 c4 c5 c6 c7 c8 c9 c10 c11 c12 c13 c14 c15 r=> .mk c0 c1 c2 c3 c4 c5 c6 c7 c8 c9 v c11 c12 c13 c14 c15 r
def NA.g11 (t:NA):CV:=match t with| .mk c0 c1 c2 c3 c4 c5 c6 c7 c8 c9 c10 c11 c12 c13 c14 c15=>c11
def NA.s11 (v:CV) (t:NA):NA:=match t with| .mk c0 c1 c2 c3 c4 c5 c6 c7 c8 c9 c10 c11 c12 c13 c14 c15=> .mk c0 c1 c2 c3 c4 c5 c6 c7 c8 c9 c10 v c12 c13 c14 c15
def Tm.g11 (t:Tm):NA:=match t with| .mk c0 c1 c2 c3 c4 c5 c6 c7 c8 c9 c10 c11 c12 c13 c14 c15 _=>c11
def Tm.s11 (v:NA) (t:Tm):Tm:=match t with| .mk c0 c1 c2 c3 c4 c5 c6 c7 c8 c9 c10 c11 c12 c13 c14 c15 r=> .mk c0 c1 c2 c3 c4 c5 c6 c7 c8 c9 c10 v c12 c13 c14 c15 r
def NA.g12 (t:NA):CV:=match t with| .mk c0 c1 c2 c3 c4 c5 c6 c7 c8 c9 c10 c11 c12 c13 c14 c15=>c12
def NA.s12 (v:CV) (t:NA):NA:=match t with| .mk c0 c1 c2 c3 c4 c5 c6 c7 c8 c9 c10 c11 c12 c13 c14 c15=> .mk c0 c1 c2 c3 c4 c5 c6 c7 c8 c9 c10 c11 v c13 c14 c15
def Tm.g12 (t:Tm):NA:=match t with| .mk c0 c1 c2 c3 c4 c5 c6 c7 c8 c9 c10 c11 c12 c13 c14 c15 _=>c12
def Tm.s12 (v:NA) (t:Tm):Tm:=match t with| .mk c0 c1 c2 c3 c4 c5 c6 c7 c8 c9 c10 c11 c12 c13 c14 c15 r=> .mk c0 c1 c2 c3 c4 c5 c6 c7 c8 c9 c10 c11 v c13 c14 c15 r
def NA.g13 (t:NA):CV:=match t with| .mk c0 c1 c2 c3 c4 c5 c6 c7 c8 c9 c10 c11 c12 c13 c14 c15=>c13
def NA.s13 (v:CV) (t:NA):NA:=match t with| .mk c0 c1 c2 c3 c4 c5 c6 c7 c8 c9 c10 c11 c12 c13 c14 c15=> .mk c0 c1 c2 c3 c4 c5 c6 c7 c8 c9 c10 c11 c12 v c14 c15
def Tm.g13 (t:Tm):NA:=match t with| .mk c0 c1 c2 c3 c4 c5 c6 c7 c8 c9 c10 c11 c12 c13 c14 c15 _=>c13
def Tm.s13 (v:NA) (t:Tm):Tm:=match t with| .mk c0 c1 c2 c3 c4 c5 c6 c7 c8 c9 c10 c11 c12 c13 c14 c15 r=> .mk c0 c1 c2 c3 c4 c5 c6 c7 c8 c9 c10 c11 c12 v c14 c15 r
def NA.g14 (t:NA):CV:=match t with| .mk c0 c1 c2 c3 c4 c5 c6 c7 c8 c9 c10 c11 c12 c13 c14 c15=>c14
def NA.s14 (v:CV) (t:NA):NA:=match t with| .mk c0 c1 c2 c3 c4 c5 c6 c7 c8 c9 c10 c11 c12 c13 c14 c15=> .mk c0 c1 c2 c3 c4 c5 c6 c7 c8 c9 c10 c11 c12 c13 v c15
def Tm.g14 (t:Tm):NA:=match t with| .mk c0 c1 c2 c3 c4 c5 c6 c7 c8 c9 c10 c11 c12 c13 c14 c15 _=>c14
def Tm.s14 (v:NA) (t:Tm):Tm:=match t with| .mk c0 c1 c2 c3 c4 c5 c6 c7 c8 c9 c10 c11 c12 c13 c14 c15 r=> .mk c0 c1 c2 c3 c4 c5 c6 c7 c8 c9 c10 c11 c12 c13 v c15 r
def NA.g15 (t:NA):CV:=match t with| .mk c0 c1 c2 c3 c4 c5 c6 c7 c8 c9 c10 c11 c12 c13 c14 c15=>c15
def NA.s15 (v:CV) (t:NA):NA:=match t with| .mk c0 c1 c2 c3 c4 c5 c6 c7 c8 c9 c10 c11 c12 c13 c14 c15=> .mk c0 c1 c2 c3 c4 c5 c6 c7 c8 c9 c10 c11 c12 c13 c14 v
def Tm.g15 (t:Tm):NA:=match t with| .mk c0 c1 c2 c3 c4 c5 c6 c7 c8 c9 c10 c11 c12 c13 c14 c15 _=>c15
def Tm.s15 (v:NA) (t:Tm):Tm:=match t with| .mk c0 c1 c2 c3 c4 c5 c6 c7 c8 c9 c10 c11 c12 c13 c14 c15 r=> .mk c0 c1 c2 c3 c4 c5 c6 c7 c8 c9 c10 c11 c12 c13 c14 v r
def Tm.rest (t:Tm):Tree CV:=match t with| .mk c0 c1 c2 c3 c4 c5 c6 c7 c8 c9 c10 c11 c12 c13 c14 c15 r=>r
def Tm.setRest (r:Tree CV) (t:Tm):Tm:=match t with| .mk c0 c1 c2 c3 c4 c5 c6 c7 c8 c9 c10 c11 c12 c13 c14 c15 _=> .mk c0 c1 c2 c3 c4 c5 c6 c7 c8 c9 c10 c11 c12 c13 c14 c15 r
def accA:Nat->AccA
 |0=>⟨NA.g0,NA.s0⟩
 |1=>⟨NA.g1,NA.s1⟩
 |2=>⟨NA.g2,NA.s2⟩
 |3=>⟨NA.g3,NA.s3⟩
 |4=>⟨NA.g4,NA.s4⟩
 |5=>⟨NA.g5,NA.s5⟩
 |6=>⟨NA.g6,NA.s6⟩
 |7=>⟨NA.g7,NA.s7⟩
 |8=>⟨NA.g8,NA.s8⟩
 |9=>⟨NA.g9,NA.s9⟩
 |10=>⟨NA.g10,NA.s10⟩
 |11=>⟨NA.g11,NA.s11⟩
 |12=>⟨NA.g12,NA.s12⟩
 |13=>⟨NA.g13,NA.s13⟩
 |14=>⟨NA.g14,NA.s14⟩
 |_=>⟨NA.g15,NA.s15⟩
def accB:Nat->AccB
 |0=>⟨Tm.g0,Tm.s0⟩
 |1=>⟨Tm.g1,Tm.s1⟩
 |2=>⟨Tm.g2,Tm.s2⟩
 |3=>⟨Tm.g3,Tm.s3⟩
 |4=>⟨Tm.g4,Tm.s4⟩
 |5=>⟨Tm.g5,Tm.s5⟩
 |6=>⟨Tm.g6,Tm.s6⟩
 |7=>⟨Tm.g7,Tm.s7⟩
 |8=>⟨Tm.g8,Tm.s8⟩
 |9=>⟨Tm.g9,Tm.s9⟩
 |10=>⟨Tm.g10,Tm.s10⟩
 |11=>⟨Tm.g11,Tm.s11⟩
 |12=>⟨Tm.g12,Tm.s12⟩
 |13=>⟨Tm.g13,Tm.s13⟩
 |14=>⟨Tm.g14,Tm.s14⟩
 |_=>⟨Tm.g15,Tm.s15⟩
def AccA.get (a:AccA):NA->CV:=match a with| .mk g _=>g
def AccA.set (a:AccA):CV->NA->NA:=match a with| .mk _ s=>s
def AccB.get (a:AccB):Tm->NA:=match a with| .mk g _=>g
def AccB.set (a:AccB):NA->Tm->Tm:=match a with| .mk _ s=>s
def Tm.look (t:Tm) (k:Nat):CV:=match Nat.blt k 256 with
 |true=>(accA (k%16)).get ((accB (k/16)).get t)
 |false=>(t.rest.get k).getD .undef
def Tm.putv (t:Tm) (k:Nat) (v:CV):Tm:=match Nat.blt k 256 with
 |true=>(accB (k/16)).set ((accA (k%16)).set v ((accB (k/16)).get t)) t
 |false=>Tm.setRest (t.rest.set k (some v)) t
def Tm.get (t:Tm) (k:Nat):Option CV:=some (t.look k)
def Tm.set (t:Tm) (k:Nat) (x:Option CV):Tm:=t.putv k (x.getD .undef)
def NA.leaf:NA:= .mk .undef .undef .undef .undef .undef .undef .undef .undef .undef .undef .undef .undef .undef .undef .undef .undef
def Tm.leaf:Tm:= .mk NA.leaf NA.leaf NA.leaf NA.leaf NA.leaf NA.leaf NA.leaf NA.leaf NA.leaf NA.leaf NA.leaf NA.leaf NA.leaf NA.leaf NA.leaf NA.leaf .leaf
def CV.one:CV->Bool
 | .undef=>false
 | .agg _=>false
 | .tup _=>false
 |_=>true
def CV.cells:CV->Option (List CV)
 | .undef=>none
 | .tup _=>none
 | .agg cs=>some cs
 |v=>some [v]
structure ME where
 key:CV
 val:CV
 born:Nat
inductive Blk where
 |cells (cs:List CV) (ro:Bool)
 |map (es:List ME) (clock:Nat)
 |strIter (s:List UInt8) (pos:Nat)
 /-- A range over a function: its frame's temporaries, the loop's left sides, their assignment, the body; 0: ready, 1: busy, 2: done; what comes next. -/
 |loop (tm:Tm) (ps:List Nat) (asg body:Code) (st:Nat) (pend:Option Code)
structure Heap where
 t:Tree Blk
 next:Nat
 pan:Option CV
def Heap.get (h:Heap) (i:Nat):Option Blk:=h.t.get i
def Heap.put (h:Heap) (i:Nat) (b:Blk):Heap:=⟨h.t.set i (some b),h.next,h.pan⟩
def Heap.del (h:Heap) (i:Nat):Heap:=⟨h.t.set i none,h.next,h.pan⟩
def Heap.new (h:Heap) (b:Blk):Heap:=⟨h.t.set h.next (some b),h.next+1,h.pan⟩
inductive TyK where
 |bool
 |int (k:IntKind)
 |string
 |pointer (e:TypeId)
 |slice (e:TypeId)
 |array (n:Nat) (e:TypeId)
 |map (k e:TypeId)
 |struct (fs:List (TypeId×Nat))
 |func
 |iface
 |other
structure TyS where
 kind:TyK
 size:Nat
 bytes:Nat
 zero:List CV
 agg:Bool
 cmp:Bool
 meths:List (String×Option (FuncId×Bool))
structure FnS where
 ntmps:Nat
 results:List ResultVar
 body:Option Code
structure KE where
 f:Nat
 args:List CV
 blks:List (List CV)
 res:CV
 news:List (List CV)
structure Env where
 ty:Nat->Option TyS
 fn:Nat->Option FnS
 globs:Nat
 /-- Calls of which it is known what they give. -/
 known:List KE:=[]
 /-- What the program's own tables hold where they are. -/
 rows:List (Nat×List CV):=[]
def const1:Value->Option CV
 | .bool b=>some (.bool b)
 | .int k n=>some (.int k n)
 | .string s=>some (.str s.data.toList)
 | .pointer none=>some (.ptr none)
 | .slice none 0 0=>some (.slice none 0 0 0)
 | .map none=>some (.map none)
 | .nilFunc=>some .nilFunc
 | .nilIface=>some .nilIface
 |_=>none
def consts:List Value->Option (List CV)
 |[]=>some []
 |v::r=>match const1 v with
  |some c=>(consts r).map (c:: ·)
  |none=>none
def constCV (v:Value):Option CV:=
 match v with
 | .agg cs=>(consts cs.toList).map .agg
 |v=>const1 v
def cvOf (G:Nat) (tmps:Tm) (x:Operand):CV:=
 match x with
 | .tmp t=>(tmps.get t).getD .undef
 | .const v=>(constCV v).getD .undef
 | .global g=>match Nat.blt g G with
   |true=> .ptr (some (g,0))
   |false=> .undef
 | .func f=> .fn f [] []
def nth {α:Type} (l:List α):Nat->Option α:=
 List.rec (λ_=>none) (λc _ ih n=>Nat.rec (some c) (λn _=>ih n) n) l
def takeN {α:Type} (l:List α):Nat->Option (List α):=
 List.rec (λn=>Nat.rec (some []) (λ_ _=>none) n) (λc _ ih n=>Nat.rec (some []) (λn _=>(ih n).map (c:: ·)) n) l
def dropN {α:Type} (l:List α):Nat->Option (List α):=
 List.rec (λn=>Nat.rec (some []) (λ_ _=>none) n) (λc r ih n=>Nat.rec (some (c::r)) (λn _=>ih n) n) l
def cut {α:Type} (l:List α) (off n:Nat):Option (List α):=(dropN l off).bind λl=>takeN l n
def over {α:Type} (vs:List α):List α->Option (List α):=
 List.rec (λl=>some l) (λv _ ih l=>List.rec none (λ_ r _=>(ih r).map (v:: ·)) l) vs
def setAt {α:Type} (l:List α) (vs:List α):Nat->Option (List α):=
 List.rec (λn=>Nat.rec (over vs []) (λ_ _=>none) n) (λc r ih n=>Nat.rec (over vs (c::r)) (λn _=>(ih n).map (c:: ·)) n) l
def len {α:Type} (l:List α):Nat:=List.rec 0 (λ_ _ ih=>ih+1) l
def bytesEq:List UInt8->List UInt8->Bool
 |[],[]=>true
 |a::x,b::y=>match Nat.beq a.toNat b.toNat with
  |true=>bytesEq x y
  |false=>false
 |_,_=>false
def bytesLess:List UInt8->List UInt8->Bool
 |_,[]=>false
 |[],_::_=>true
 |a::x,b::y=>match Nat.blt a.toNat b.toNat with
  |true=>true
  |false=>match Nat.beq a.toNat b.toNat with
   |true=>bytesLess x y
   |false=>false
def kcode:IntKind->Nat
 | .i8=>0| .i16=>1| .i32=>2| .i64=>3| .u8=>4| .u16=>5| .u32=>6| .u64=>7
def kindEq (a b:IntKind):Bool:=Nat.beq (kcode a) (kcode b)
def intEq:Int->Int->Bool
 | .ofNat a,.ofNat b=>Nat.beq a b
 | .negSucc a,.negSucc b=>Nat.beq a b
 |_,_=>false
def intLe:Int->Int->Bool
 | .ofNat a,.ofNat b=>Nat.ble a b
 | .negSucc a,.negSucc b=>Nat.ble b a
 | .negSucc _,.ofNat _=>true
 | .ofNat _,.negSucc _=>false
def place (n:Int) (len:Nat):Option Nat:=
 match n with
 | .ofNat a=>match Nat.blt a len with
   |true=>some a
   |false=>none
 | .negSucc _=>none
def upto (n:Int) (len:Nat):Option Nat:=
 match n with
 | .ofNat a=>match Nat.ble a len with
   |true=>some a
   |false=>none
 | .negSucc _=>none
end Go.CM

noncomputable section
namespace Go.CM
mutual
def cvEq:CV->CV->Bool
 | .undef,.undef=>true
 | .bool a,.bool b=>a==b
 | .int k a,.int k' b=>kindEq k k'&&intEq a b
 | .str a,.str b=>bytesEq a b
 | .ptr none,.ptr none=>true
 | .ptr (some p),.ptr (some q)=>Nat.beq p.1 q.1&&Nat.beq p.2 q.2
 | .slice none n c x,.slice none n' c' x'=>Nat.beq n n'&&Nat.beq c c'&&Nat.beq x x'
 | .slice (some p) n c x,.slice (some q) n' c' x'=>Nat.beq p.1 q.1&&Nat.beq p.2 q.2&&Nat.beq n n'&&Nat.beq c c'&&Nat.beq x x'
 | .map none,.map none=>true
 | .map (some r),.map (some q)=>Nat.beq r q
 | .fn f a b,.fn g c d=>Nat.beq f g&&cvsEq a c&&cvsEq b d
 | .yield l,.yield m=>Nat.beq l m
 | .nilFunc,.nilFunc=>true
 | .iface t v,.iface u w=>Nat.beq t u&&cvEq v w
 | .nilIface,.nilIface=>true
 | .empty,.empty=>true
 | .agg a,.agg b=>cvsEq a b
 | .tup a,.tup b=>cvsEq a b
 |_,_=>false
def cvsEq:List CV->List CV->Bool
 |[],[]=>true
 |a::x,b::y=>cvEq a b&&cvsEq x y
 |_,_=>false
end
def CV.flat:CV->Bool
 | .bool _=>true
 | .int _ _=>true
 | .str _=>true
 |_=>false
def CV.plain:CV->Bool
 | .agg cs=>cs.all CV.flat
 | .tup cs=>cs.all CV.flat
 |v=>v.flat
def kindAt (E:Env) (t:TypeId):Option TyK:=
 match E.ty t with
 |some s=>some s.kind
 |none=>none
def part (cs:List CV) (off size:Nat) (agg:Bool):Option CV:=
 match agg with
 |true=>(cut cs off size).map .agg
 |false=>nth cs off
def loadB (b:Option Blk) (s:Option TyS) (off:Nat):Option CV:=
 match b with
 |some (.cells cs _)=>match s with
  |some s=>part cs off s.size s.agg
  |none=>none
 |_=>none
def load (E:Env) (h:Heap) (t:TypeId) (id off:Nat):Option CV:=loadB (h.get id) (E.ty t) off
def putCells (h:Heap) (id off:Nat) (vs:List CV):Option Heap:=
 match h.get id with
 |some (.cells cs false)=>(setAt cs vs off).map λcs'=>h.put id (.cells cs' false)
 |_=>none
def storeV (h:Heap) (s:Option TyS) (id off:Nat) (vs:Option (List CV)):Option Heap:=
 match s with
 |some s=>match vs with
  |some vs=>match Nat.beq (len vs) s.size with
   |true=>putCells h id off vs
   |false=>none
  |none=>none
 |none=>none
def store (E:Env) (h:Heap) (t:TypeId) (id off:Nat) (v:CV):Option Heap:=storeV h (E.ty t) id off v.cells
def eqFields (E:Env) (rec:TypeId->CV->CV->Option Bool):List (TypeId×Nat)->List CV->List CV->Option Bool
 |[],_,_=>some true
 |(t,off)::r,xs,ys=>match E.ty t with
  |none=>none
  |some s=>match part xs off s.size s.agg with
   |none=>none
   |some x=>match part ys off s.size s.agg with
    |none=>none
    |some y=>match rec t x y with
     |some true=>eqFields E rec r xs ys
     |some false=>some false
     |none=>none
def eqK (E:Env) (rec:TypeId->CV->CV->Option Bool) (s:TyS) (x y:CV):Option Bool:=
 match s.kind with
 | .bool=>match x with
   | .bool a=>match y with
     | .bool b=>some (a==b)
     |_=>none
   |_=>none
 | .int _=>match x with
   | .int k a=>match y with
     | .int k' b=>match kindEq k k' with
       |true=>some (intEq a b)
       |false=>none
     |_=>none
   |_=>none
 | .string=>match x with
   | .str a=>match y with
     | .str b=>some (bytesEq a b)
     |_=>none
   |_=>none
 | .pointer _=>match x with
   | .ptr none=>match y with
     | .ptr b=>some b.isNone
     |_=>none
   | .ptr (some _)=>match y with
     | .ptr none=>some false
     |_=>none
   |_=>none
 | .iface=>match x with
   | .nilIface=>match y with
     | .nilIface=>some true
     | .iface _ _=>some false
     |_=>none
   | .iface tx vx=>match y with
     | .nilIface=>some false
     | .iface ty vy=>match Nat.beq tx ty with
       |true=>match(E.ty tx).map (·.cmp)with
        |some true=>rec tx vx vy
        |_=>none
       |false=>some false
     |_=>none
   |_=>none
 | .struct fs=>match s.cmp with
   |true=>match x with
    | .agg xs=>match y with
      | .agg ys=>eqFields E rec fs xs ys
      |_=>none
    |_=>none
   |false=>none
 | .slice _=>match x with
   | .slice none _ _ _=>match y with
     | .slice b _ _ _=>some b.isNone
     | .empty=>some false
     |_=>none
   | .slice (some _) _ _ _=>match y with
     | .slice none _ _ _=>some false
     |_=>none
   | .empty=>match y with
     | .slice none _ _ _=>some false
     |_=>none
   |_=>none
 | .map _ _=>match x with
   | .map none=>match y with
     | .map b=>some b.isNone
     |_=>none
   | .map (some _)=>match y with
     | .map none=>some false
     |_=>none
   |_=>none
 | .func=>match x with
   | .nilFunc=>match y with
     | .nilFunc=>some true
     | .fn _ _ _=>some false
     |_=>none
   | .fn _ _ _=>match y with
     | .nilFunc=>some false
     |_=>none
   |_=>none
 |_=>none
def eqT (E:Env):Nat->TypeId->CV->CV->Option Bool
 |0,_,_,_=>none
 |d+1,t,x,y=>match E.ty t with
  |some s=>eqK E (eqT E d) s x y
  |none=>none
def intBin (op:BinOp) (k:IntKind) (a b:Int):Option CV:=
 match op with
 | .add=>some (.int k (k.wrap (a+b)))
 | .sub=>some (.int k (k.wrap (a-b)))
 | .mul=>some (.int k (k.wrap (a*b)))
 | .quo=>match intEq b 0 with
   |true=>none
   |false=>some (.int k (k.wrap (a.tdiv b)))
 | .rem=>match intEq b 0 with
   |true=>none
   |false=>some (.int k (a.tmod b))
 | .and=>some (.int k (k.wrap ((BitVec.ofInt k.bits a &&& BitVec.ofInt k.bits b).toNat)))
 | .or=>some (.int k (k.wrap ((BitVec.ofInt k.bits a ||| BitVec.ofInt k.bits b).toNat)))
 | .xor=>some (.int k (k.wrap ((BitVec.ofInt k.bits a ^^^ BitVec.ofInt k.bits b).toNat)))
 | .andNot=>some (.int k (k.wrap ((BitVec.ofInt k.bits a &&& ~~~ BitVec.ofInt k.bits b).toNat)))
 | .eql=>some (.bool (intEq a b))
 | .neq=>some (.bool (!intEq a b))
 | .lss=>some (.bool (!intLe b a))
 | .leq=>some (.bool (intLe a b))
 | .gtr=>some (.bool (!intLe a b))
 | .geq=>some (.bool (intLe b a))
 |_=>none
def intOp (op:BinOp) (k k':IntKind) (a b:Int):Option CV:=
 match op with
 | .shl=>match intLe 0 b with
   |true=>some (.int k (k.wrap (a*2 ^ (min b.toNat k.bits))))
   |false=>none
 | .shr=>match intLe 0 b with
   |true=>some (.int k (a.fdiv (2 ^ (min b.toNat k.bits))))
   |false=>none
 |_=>match kindEq k k' with
  |true=>intBin op k a b
  |false=>none
def strOp (op:BinOp) (a b:List UInt8):Option CV:=
 match op with
 | .add=>match Nat.ble (len a+len b) 1048576 with
   |true=>some (.str (a++b))
   |false=>none
 | .eql=>some (.bool (bytesEq a b))
 | .neq=>some (.bool (!bytesEq a b))
 | .lss=>some (.bool (bytesLess a b))
 | .leq=>some (.bool (bytesLess a b||bytesEq a b))
 | .gtr=>some (.bool (!(bytesLess a b||bytesEq a b)))
 | .geq=>some (.bool (!bytesLess a b))
 |_=>none
def guardEq (c:Bool) (x y:CV):Bool:=
 match c with
 |true=>true
 |false=>match x with
  | .nilIface=>match y with
    | .nilIface=>false
    |_=>true
  |_=>true
def anyEq (E:Env) (op:BinOp) (t:TypeId) (c:Bool) (x y:CV):Option CV:=
 match guardEq c x y with
 |false=>none
 |true=>match op with
  | .eql=>(eqT E 20 t x y).map .bool
  | .neq=>(eqT E 20 t x y).map λb=> .bool (!b)
  |_=>none
def binop (E:Env) (op:BinOp) (t:TypeId) (c:Bool) (x y:CV):Option CV:=
 match x with
 | .int k a=>match y with
   | .int k' b=>intOp op k k' a b
   |_=>none
 | .str a=>match y with
   | .str b=>strOp op a b
   |_=>none
 |_=>anyEq E op t c x y
def unop (op:UnOp) (x:CV):Option CV:=
 match op with
 | .neg=>match x with
   | .int k n=>some (.int k (k.wrap (0-n)))
   |_=>none
 | .not=>match x with
   | .bool b=>some (.bool (!b))
   |_=>none
 | .xor=>match x with
   | .int k n=>some (.int k (k.wrap ((BitVec.ofInt k.bits (if k.signed then -1 else k.max) ^^^ BitVec.ofInt k.bits n).toNat)))
   |_=>none
 |_=>none
def fillAt (place:Nat->Option (Nat×Nat)):List CV->List (Nat×CV)->Option (List CV)
 |cells,[]=>some cells
 |cells,(i,v)::rest=>match place i with
  |none=>none
  |some (off,size)=>match v.cells with
   |none=>none
   |some vs=>match Nat.beq (len vs) size with
    |false=>none
    |true=>match setAt cells vs off with
     |none=>none
     |some c=>fillAt place c rest
def sizeOf? (E:Env) (t:TypeId):Option Nat:=(E.ty t).map (·.size)
def placesOf (E:Env):List (TypeId×Nat)->Option (List (Nat×Nat))
 |[]=>some []
 |f::r=>match sizeOf? E f.1 with
  |some n=>match placesOf E r with
   |some l=>some ((f.2,n)::l)
   |none=>none
  |none=>none
def fieldOf (s:Option TyS) (f:Nat):Option (TypeId×Nat):=
 match s with
 |some s=>match s.kind with
  | .struct fs=>nth fs f
  |_=>none
 |none=>none
def hiOf (hi:Option CV) (len cap:Nat):Option Nat:=
 match hi with
 |none=>some len
 |some (.int _ n)=>upto n cap
 |some _=>none
def loOf (lo:Option CV) (h:Nat):Option Nat:=
 match lo with
 |none=>some 0
 |some (.int _ n)=>upto n h
 |some _=>none
def oPick (c a b:CV) (h:Heap):Option (CV×Heap):=
 match c with
 | .bool c=>match c with
   |true=>some (a,h)
   |false=>some (b,h)
 |_=>none
def withH (h:Heap) (v:Option CV):Option (CV×Heap):=
 match v with
 |some v=>some (v,h)
 |none=>none
def ofH (h:Option Heap):Option (CV×Heap):=
 match h with
 |some h=>some (.undef,h)
 |none=>none
def newPtr (h:Heap) (cs:Option (List CV)):Option (CV×Heap):=
 match cs with
 |some cs=>some (.ptr (some (h.next,0)),h.new (.cells cs false))
 |none=>none
def oBuild (E:Env) (s:Option TyS) (parts:List (Nat×CV)) (h:Heap):Option (CV×Heap):=
 match s with
 |some s=>match s.kind with
  | .struct fs=>match placesOf E fs with
    |some pl=>withH h ((fillAt (nth pl) s.zero parts).map .agg)
    |none=>none
  | .array _ e=>match sizeOf? E e with
    |some n=>withH h ((fillAt (λi=>some (i*n,n)) s.zero parts).map .agg)
    |none=>none
  |_=>none
 |none=>none
def rep (zero:List CV):Nat->List CV
 |0=>[]
 |n+1=>zero++rep zero n
def newSl (h:Heap) (n cap:Nat) (cs:Option (List CV)):Option (CV×Heap):=
 match cs with
 |some cs=>some (.slice (some (h.next,0)) n cap 0,h.new (.cells cs false))
 |none=>none
def oBuildSlice (E:Env) (s:Option TyS) (n:Nat) (parts:List (Nat×CV)) (h:Heap):Option (CV×Heap):=
 match s with
 |some s=>match s.kind with
  | .slice e=>match E.ty e with
    |some es=>match Nat.ble (n*es.size+n) 16777216 with
     |true=>newSl h n n (fillAt (λi=>some (i*es.size,es.size)) (rep es.zero n) parts)
     |false=>none
    |none=>none
  |_=>none
 |none=>none
def oLoad (E:Env) (t:TypeId) (a:CV) (h:Heap):Option (CV×Heap):=
 match a with
 | .ptr (some p)=>withH h (load E h t p.1 p.2)
 |_=>none
def oStore (E:Env) (t:TypeId) (a v:CV) (h:Heap):Option (CV×Heap):=
 match a with
 | .ptr (some p)=>ofH (store E h t p.1 p.2 v)
 |_=>none
def oNil (x:CV) (h:Heap):Option (CV×Heap):=
 match x with
 | .ptr (some p)=>some (.ptr (some p),h)
 | .fn f a b=>some (.fn f a b,h)
 | .yield l=>some (.yield l,h)
 | .iface t v=>some (.iface t v,h)
 |_=>none
def oMakeSlice (E:Env) (s:Option TyS) (l c:CV) (h:Heap):Option (CV×Heap):=
 match s with
 |some s=>match s.kind with
  | .slice e=>match E.ty e with
    |some es=>match c with
     | .int .i64 c=>match upto c 1048576 with
       |some c=>match l with
        | .int .i64 l=>match upto l c with
          |some l=>match Nat.ble es.bytes 4096 with
           |true=>newSl h l c (some (rep es.zero c))
           |false=>none
          |none=>none
        |_=>none
       |none=>none
     |_=>none
    |none=>none
  |_=>none
 |none=>none
def oFieldAddr (E:Env) (fo:Option (TypeId×Nat)) (x:CV) (h:Heap):Option (CV×Heap):=
 match fo with
 |some fo=>match sizeOf? E fo.1 with
  |some (_+1)=>match x with
   | .ptr (some p)=>some (.ptr (some (p.1,p.2+fo.2)),h)
   |_=>none
  |_=>none
 |none=>none
def oField (E:Env) (fo:Option (TypeId×Nat)) (x:CV) (h:Heap):Option (CV×Heap):=
 match fo with
 |some fo=>match E.ty fo.1 with
  |some s=>match x with
   | .agg cs=>withH h (part cs fo.2 s.size s.agg)
   |_=>none
  |none=>none
 |none=>none
def addrAt (id o:Nat) (z:Option Nat) (i:Option Nat) (h:Heap):Option (CV×Heap):=
 match z with
 |some z=>match i with
  |some i=>some (.ptr (some (id,o+i*z)),h)
  |none=>none
 |none=>none
def oIndexAddr (E:Env) (s:Option TyS) (x i:CV) (h:Heap):Option (CV×Heap):=
 match i with
 | .int _ n=>match s with
   |some s=>match s.kind with
    | .array len e=>match x with
      | .ptr (some p)=>addrAt p.1 p.2 (sizeOf? E e) (place n len) h
      |_=>none
    | .slice e=>match x with
      | .slice (some p) len _ _=>addrAt p.1 p.2 (sizeOf? E e) (place n len) h
      |_=>none
    |_=>none
   |none=>none
 |_=>none
def oIndex (E:Env) (s:Option TyS) (x i:CV) (h:Heap):Option (CV×Heap):=
 match i with
 | .int _ n=>match s with
   |some s=>match s.kind with
    | .array len e=>match x with
      | .agg cs=>match place n len with
        |some i=>match E.ty e with
         |some es=>withH h (part cs (i*es.size) es.size es.agg)
         |none=>none
        |none=>none
      |_=>none
    | .string=>match x with
      | .str b=>match n with
        | .ofNat i=>match nth b i with
          |some c=>some (.int .u8 c.toNat,h)
          |none=>none
        | .negSucc _=>none
      |_=>none
    |_=>none
   |none=>none
 |_=>none
def sliceAtO (p:Option (Nat×Nat)) (l z:Nat):Option (Nat×Nat):=
 match p with
 |some p=>some (p.1,p.2+l*z)
 |none=>none
def oSlice (E:Env) (s:Option TyS) (x:CV) (lo hi mx:Option CV):Option CV:=
 match s with
 |none=>none
 |some s=>match s.kind with
  | .string=>match x with
    | .str b=>match mx with
      |none=>match hiOf hi (len b) (len b)with
       |some h=>match loOf lo h with
        |some l=>(cut b l (h-l)).map .str
        |none=>none
       |none=>none
      |some _=>none
    |_=>none
  | .slice e=>match x with
    | .slice p n cap ex=>match sizeOf? E e with
      |some z=>match mx with
       |none=>match hiOf hi n cap with
        |some h=>match loOf lo h with
         |some l=>match Nat.beq cap l with
          |true=>match ex with
           |0=>some (.slice p (h-l) (cap-l) 0)
           |y+1=>match l with
            |0=>some (.slice p h cap (y+1))
            |_+1=>match p with
             |some _=>some .empty
             |none=>none
          |false=>match Nat.beq ex 0||Nat.beq ex z with
           |true=>some (.slice (sliceAtO p l z) (h-l) (cap-l) ex)
           |false=>none
         |none=>none
        |none=>none
       |some (.int _ m)=>match upto m cap with
        |some m=>match hi with
         |some (.int _ h)=>match upto h m with
          |some h=>match loOf lo h with
           |some l=>match Nat.beq m l with
            |true=>some (.slice p (h-l) (m-l) 0)
            |false=>some (.slice (sliceAtO p l z) (h-l) (m-l) 0)
           |none=>none
          |none=>none
         |_=>none
        |none=>none
       |some _=>none
      |none=>none
    | .empty=>match mx with
      |none=>match hiOf hi 0 0 with
       |some h=>match loOf lo h with
        |some _=>match sizeOf? E e with
         |some _=>some .empty
         |none=>none
        |none=>none
       |none=>none
      |some _=>none
    |_=>none
  | .array n e=>match x with
    | .ptr (some p)=>match mx with
      |none=>match sizeOf? E e with
       |some z=>match hiOf hi n n with
        |some h=>match loOf lo h with
         |some l=>match Nat.beq n l with
          |true=>match Nat.ble n 16777216 with
           |true=>some (.slice (some p) (h-l) (n-l) 0)
           |false=>none
          |false=>match Nat.ble n 16777216 with
           |true=>some (.slice (some (p.1,p.2+l*z)) (h-l) (n-l) 0)
           |false=>none
         |none=>none
        |none=>none
       |none=>none
      |some _=>none
    |_=>none
  |_=>none
def bytesOf:List CV->Option (List UInt8)
 |[]=>some []
 | .int .u8 (.ofNat n)::r=>match Nat.blt n 256 with
   |true=>match bytesOf r with
    |some l=>some (UInt8.ofNat n::l)
    |none=>none
   |false=>none
 |_::_=>none
def oConvert (E:Env) (h:Heap) (a b:Option TyS) (x:CV):Option (CV×Heap):=
 match a with
 |some a=>match b with
  |some b=>match b.kind with
   | .int k=>match x with
     | .int _ n=>some (.int k (k.wrap n),h)
     |_=>none
   | .string=>match x with
     | .str s=>some (.str s,h)
     | .slice p n _ _=>match a.kind with
       | .slice e=>match kindAt E e with
         |some (.int .u8)=>match p with
          |none=>some (.str [],h)
          |some p=>match h.get p.1 with
           |some (.cells cs _)=>withH h (((cut cs p.2 n).bind bytesOf).map .str)
           |_=>none
         |_=>none
       |_=>none
     |_=>none
   |_=>none
  |none=>none
 |none=>none
def zeroV (E:Env) (t:TypeId):Option CV:=
 match E.ty t with
 |some s=>match s.agg with
  |true=>some (.agg s.zero)
  |false=>match s.zero with
   |[z]=>some z
   |_=>none
 |none=>none
def keyKind (k:TyK):Bool:=
 match k with
 | .string=>true
 | .int _=>true
 | .bool=>true
 |_=>false
def keyFs (E:Env) (cs:List CV):List (TypeId×Nat)->Bool
 |[]=>true
 |f::r=>match E.ty f.1 with
  |some s=>match keyKind s.kind with
   |true=>match part cs f.2 s.size s.agg with
    |some _=>keyFs E cs r
    |none=>false
   |false=>false
  |none=>false
def keyOk (E:Env) (t:TypeId) (k:CV):Bool:=
 match kindAt E t with
 |some (.struct fs)=>match k with
  | .agg cs=>keyFs E cs fs
  |_=>false
 |some k=>keyKind k
 |none=>false
def keySame (k y:CV):Bool:=
 match k with
 | .agg cs=>match List.all cs CV.flat with
   |true=>cvEq (.agg cs) y
   |false=>false
 |_=>true
def findKey (E:Env) (kt:TypeId) (k:CV):List ME->Nat->Option (Option (Nat×CV))
 |[],_=>some none
 |e::es,i=>match eqT E 20 kt k e.key with
  |some true=>match keySame k e.key with
   |true=>some (some (i,e.val))
   |false=>none
  |some false=>findKey E kt k es (i+1)
  |none=>none
def setME (es:List ME) (v:ME->ME) (i:Nat):List ME:=
 List.rec (λ_=>[]) (λe r ih i=>Nat.rec (v e::r) (λi _=>e::ih i) i) es i
def oMapUpd (E:Env) (s:Option TyS) (m k v:CV) (h:Heap):Option (CV×Heap):=
 match s with
 |some s=>match s.kind with
  | .map kt _=>match keyOk E kt k with
    |true=>match m with
     | .map (some r)=>match h.get r with
       |some (.map es clock)=>match findKey E kt k es 0 with
        |some (some p)=>some (.undef,h.put r (.map (setME es (λe=>⟨k,v,e.born⟩) p.1) clock))
        |some none=>some (.undef,h.put r (.map (es++[⟨k,v,clock⟩]) (clock+1)))
        |none=>none
       |_=>none
     |_=>none
    |false=>none
  |_=>none
 |none=>none
def mapEs (h:Heap) (x:CV):Option (List ME):=
 match x with
 | .map none=>some []
 | .map (some r)=>match h.get r with
   |some (.map es _)=>some es
   |_=>none
 |_=>none
def okTup (ok:Bool) (v:CV) (b:Bool):CV:=
 match ok with
 |true=> .tup [v,.bool b]
 |false=>v
def found (E:Env) (et:TypeId) (ok:Bool) (f:Option (Option (Nat×CV))):Option CV:=
 match f with
 |some (some p)=>some (okTup ok p.2 true)
 |some none=>(zeroV E et).map λz=>okTup ok z false
 |none=>none
def oLookup (E:Env) (s:Option TyS) (x i:CV) (ok:Bool) (h:Heap):Option CV:=
 match s with
 |some s=>match s.kind with
  | .map kt et=>match keyOk E kt i with
    |true=>match mapEs h x with
     |some es=>found E et ok (findKey E kt i es 0)
     |none=>none
    |false=>none
  |_=>none
 |none=>none
def oMapEntry (E:Env) (s:Option TyS) (m k:CV) (h:Heap):Option (CV×Heap):=
 match s with
 |some s=>match s.kind with
  | .map kt et=>match keyOk E kt k with
    |true=>match m with
     | .map (some r)=>match h.get r with
       |some (.map es clock)=>match findKey E kt k es 0 with
        |some (some p)=>match nth es p.1 with
         |some x=>some (.tup [p.2,.int .i64 (Int.ofNat x.born)],h.put r (.map (setME es (λe=>⟨k,e.val,e.born⟩) p.1) clock))
         |none=>none
        |some none=>match zeroV E et with
         |some z=>some (.tup [z,.int .i64 (Int.ofNat clock)],h.put r (.map (es++[⟨k,z,clock⟩]) (clock+1)))
         |none=>none
        |none=>none
       |_=>none
     |_=>none
    |false=>none
  |_=>none
 |none=>none
def findBorn (n:Int):List ME->Nat->Option Nat
 |[],_=>none
 |e::r,i=>match intEq (Int.ofNat e.born) n with
  |true=>some i
  |false=>findBorn n r (i+1)
def oEntryStore (m s v:CV) (h:Heap):Option (CV×Heap):=
 match m with
 | .map (some r)=>match h.get r with
   |some (.map es clock)=>match s with
    | .int _ n=>match findBorn n es 0 with
      |some i=>some (.undef,h.put r (.map (setME es (λe=>⟨e.key,v,e.born⟩) i) clock))
      |none=>none
    |_=>none
   |_=>none
 |_=>none
def oAssert (E:Env) (s:Option TyS) (x:CV) (a:TypeId) (ok:Bool) (h:Heap):Option (CV×Heap):=
 match s with
 |some s=>match s.kind with
  | .iface=>none
  |_=>match x with
   | .iface t v=>match Nat.beq t a with
     |true=>some (okTup ok v true,h)
     |false=>match ok with
      |true=>withH h ((zeroV E a).map λz=>okTup true z false)
      |false=>none
   | .nilIface=>match ok with
     |true=>withH h ((zeroV E a).map λz=>okTup true z false)
     |false=>none
   |_=>none
 |none=>none
def oMakeIface (s:Option TyS) (t:TypeId) (x:CV) (h:Heap):Option (CV×Heap):=
 match s with
 |some s=>match s.kind with
  | .iface=>none
  |_=>some (.iface t x,h)
 |none=>none
def oExtract (x:CV) (i:Nat):Option CV:=
 match x with
 | .tup vs=>nth vs i
 |_=>none
def isConst:Operand->Bool
 | .const _=>true
 |_=>false
def parts (ρ:Operand->CV) (l:List (Nat×Operand)):List (Nat×CV):=l.map λp=>(p.1,ρ p.2)
def opVal (E:Env) (o:Op) (ρ:Operand->CV) (h:Heap):Option (CV×Heap):=
 match o with
 | .move x=>some (ρ x,h)
 | .assign x=>some (ρ x,h)
 | .pick c a b=>oPick (ρ c) (ρ a) (ρ b) h
 | .alloc t=>newPtr h ((E.ty t).map (·.zero))
 | .box _ x=>newPtr h (ρ x).cells
 | .build t ps=>oBuild E (E.ty t) (parts ρ ps.toList) h
 | .buildSlice t n ps=>oBuildSlice E (E.ty t) n (parts ρ ps.toList) h
 | .load t a=>oLoad E t (ρ a) h
 | .store t a v=>oStore E t (ρ a) (ρ v) h
 | .nilCheck x=>oNil (ρ x) h
 | .binOp op t x y _=>withH h (binop E op t (isConst x||isConst y) (ρ x) (ρ y))
 | .unOp op _ x=>withH h (unop op (ρ x))
 | .convert s d x=>oConvert E h (E.ty s) (E.ty d) (ρ x)
 | .makeInterface t x=>oMakeIface (E.ty t) t (ρ x) h
 | .makeFunc (.func f) first caps=>some (.fn f (first.toList.map ρ) (caps.toList.map ρ),h)
 | .makeMap _ none=>some (.map (some h.next),h.new (.map [] 0))
 | .makeSlice t l c=>oMakeSlice E (E.ty t) (ρ l) (ρ c) h
 | .slice t x lo hi mx=>withH h (oSlice E (E.ty t) (ρ x) (lo.map ρ) (hi.map ρ) (mx.map ρ))
 | .fieldAddr t x f=>oFieldAddr E (fieldOf (E.ty t) f) (ρ x) h
 | .field t x f=>oField E (fieldOf (E.ty t) f) (ρ x) h
 | .indexAddr t x i=>oIndexAddr E (E.ty t) (ρ x) (ρ i) h
 | .index t x i=>oIndex E (E.ty t) (ρ x) (ρ i) h
 | .lookup t x i ok=>withH h (oLookup E (E.ty t) (ρ x) (ρ i) ok h)
 | .typeAssert x _ a ok=>oAssert E (E.ty a) (ρ x) a ok h
 | .extract x i=>withH h (oExtract (ρ x) i)
 | .mapUpdate t m k v=>oMapUpd E (E.ty t) (ρ m) (ρ k) (ρ v) h
 | .insert t m k v=>oMapUpd E (E.ty t) (ρ m) (ρ k) (ρ v) h
 | .mapEntry t m k=>oMapEntry E (E.ty t) (ρ m) (ρ k) h
 | .entryStore _ m s v=>oEntryStore (ρ m) (ρ s) (ρ v) h
 |_=>none
def lenV (h:Heap) (s:Option TyS) (x:CV):Option Nat:=
 match s with
 |some s=>match s.kind with
  | .string=>match x with
    | .str b=>some (len b)
    |_=>none
  | .slice _=>match x with
    | .slice _ n _ _=>some n
    | .empty=>some 0
    |_=>none
  | .array n _=>some n
  | .map _ _=>match x with
    | .map none=>some 0
    | .map (some r)=>match h.get r with
      |some (.map es _)=>some (len es)
      |_=>none
    |_=>none
  |_=>none
 |none=>none
def srcCells (h:Heap) (size n:Nat) (x:CV):Option (List CV):=
 match x with
 | .slice none _ _ _=>match n with
   |0=>some []
   |_+1=>none
 | .slice (some p) _ _ _=>match n with
   |0=>some []
   |_+1=>match h.get p.1 with
    |some (.cells cs _)=>cut cs p.2 (n*size)
    |_=>none
 | .empty=>match n with
   |0=>some []
   |_+1=>none
 | .str s=>match size with
   |1=>(takeN s n).map λl=>l.map λb=> .int .u8 b.toNat
   |_=>none
 |_=>none
def srcLen (x:CV):Option Nat:=
 match x with
 | .slice _ n _ _=>some n
 | .empty=>some 0
 | .str b=>some (len b)
 |_=>none
def growTo (h:Heap) (base:Option (Nat×Nat)) (ex z:Nat) (need:Nat) (cs:List CV):Option (CV×Heap):=
 match ex with
 |0=>some (.slice (some (h.next,0)) need need z,h.new (.cells cs false))
 |_+1=>match base with
  |some p=>match Nat.beq ex z with
   |true=>match h.get p.1 with
    |some (.cells _ false)=>some (.slice (some (h.next,0)) need need z,(h.del p.1).new (.cells cs false))
    |_=>none
   |false=>none
  |none=>none
def appendAt (h:Heap) (z bytes:Nat) (s:CV) (base:Option (Nat×Nat)) (n cap:Nat) (ex:Nat) (m:Nat) (new:List CV):Option (CV×Heap):=
 match Nat.ble (n+m) cap with
 |true=>match base with
  |none=>some (.slice none (n+m) cap ex,h)
  |some p=>match m with
   |0=>some (.slice base n cap ex,h)
   |_+1=>match putCells h p.1 (p.2+n*z) new with
    |some h'=>some (.slice base (n+m) cap ex,h')
    |none=>none
 |false=>match Nat.ble ((n+m)*bytes) 70368744177664 with
  |true=>match srcCells h z n s with
   |some old=>growTo h base ex z (n+m) (old++new)
   |none=>none
  |false=>none
def oAppend0 (h:Heap) (es:TyS) (s x:CV):Option (CV×Heap):=
 match s with
 | .slice none n cap ex=>match n with
   |0=>match cap with
    |0=>match ex with
     |0=>match x with
      | .int .i64 (.ofNat m)=>match m with
        |0=>none
        |m+1=>match Nat.ble (m+1) 1048576&&Nat.ble ((m+1)*es.bytes) 70368744177664 with
         |true=>some (.slice (some (h.next,0)) (m+1) (m+1) es.size,h.new (.cells (rep es.zero (m+1)) false))
         |false=>none
      |_=>none
     |_+1=>none
    |_+1=>none
   |_+1=>none
 |_=>none
def oAppend (E:Env) (h:Heap) (ts:Option TyS) (t2:Option TyS) (s x:CV):Option (CV×Heap):=
 match ts with
 |some ts=>match ts.kind with
  | .slice e=>match s with
    | .slice base n cap ex=>match E.ty e with
      |some es=>match Nat.beq es.size 0||Nat.beq es.bytes 0 with
       |true=>none
       |false=>match t2 with
        |some t2=>match t2.kind with
         | .int _=>oAppend0 h es s x
         |_=>match srcLen x with
          |some m=>match srcCells h es.size m x with
           |some new=>appendAt h es.size es.bytes s base n cap ex m new
           |none=>none
          |none=>none
        |none=>none
      |none=>none
    |_=>none
  |_=>none
 |none=>none
def oCopy (E:Env) (h:Heap) (ts:Option TyS) (d s:CV):Option (CV×Heap):=
 match ts with
 |some ts=>match ts.kind with
  | .slice e=>match d with
    | .slice base n _ _=>match E.ty e with
      |some es=>match srcLen s with
       |some m=>match Nat.min m n with
        |0=>some (.int .i64 0,h)
        |k+1=>match srcCells h es.size (k+1) s with
         |some cs=>match base with
          |none=>none
          |some p=>match putCells h p.1 p.2 cs with
           |some h'=>some (.int .i64 (Int.ofNat (k+1)),h')
           |none=>none
         |none=>none
       |none=>none
      |none=>none
    | .empty=>match E.ty e with
      |some _=>match srcLen s with
       |some _=>some (.int .i64 0,h)
       |none=>none
      |none=>none
    |_=>none
  |_=>none
 |none=>none
def oClear (E:Env) (h:Heap) (ts:Option TyS) (x:CV):Option (CV×Heap):=
 match ts with
 |some ts=>match ts.kind with
  | .slice e=>match x with
    | .slice none _ _ _=>some (.tup [],h)
    | .empty=>some (.tup [],h)
    | .slice (some p) n _ _=>match n with
      |0=>some (.tup [],h)
      |k+1=>match E.ty e with
       |some es=>match putCells h p.1 p.2 (rep es.zero (k+1))with
        |some h'=>some (.tup [],h')
        |none=>none
       |none=>none
    |_=>none
  |_=>none
 |none=>none
def eraseAt:List ME->Nat->List ME
 |[],_=>[]
 |e::r,n=>match n with
  |0=>r
  |k+1=>e::eraseAt r k
def oDelete (E:Env) (h:Heap) (s:Option TyS) (m k:CV):Option (CV×Heap):=
 match s with
 |some s=>match s.kind with
  | .map kt _=>match keyOk E kt k with
    |true=>match m with
     | .map none=>some (.tup [],h)
     | .map (some r)=>match h.get r with
       |some (.map es clock)=>match findKey E kt k es 0 with
        |some (some p)=>some (.tup [],h.put r (.map (eraseAt es p.1) clock))
        |some none=>some (.tup [],h.put r (.map es clock))
        |none=>none
       |_=>none
     |_=>none
    |false=>none
  |_=>none
 |none=>none
def max2 (isMax:Bool) (x y:CV):Option CV:=
 match x with
 | .int k a=>match y with
   | .int _ b=>some (.int k (match isMax with
     |true=>match intLe b a with
      |true=>a
      |false=>b
     |false=>match intLe a b with
      |true=>a
      |false=>b))
   |_=>none
 |_=>none
def fold2 (f:CV->CV->Option CV):CV->List CV->Option CV
 |x,[]=>some x
 |x,y::r=>match f x y with
  |some z=>fold2 f z r
  |none=>none
def capV (s:Option TyS) (x:CV):Option Nat:=
 match s with
 |some s=>match s.kind with
  | .slice _=>match x with
    | .slice _ _ c ex=>match ex with
      |0=>some c
      |_+1=>none
    |_=>none
  |_=>none
 |none=>none
def lenR (n:Option Nat):Option CV:=
 match n with
 |some n=>some (.int .i64 (Int.ofNat n))
 |none=>none
def builtinV (E:Env) (h:Heap) (b:Builtin) (tys:List TypeId) (args:List CV):Option (CV×Heap):=
 match b with
 | .len=>match tys with
   |t::_=>match args with
    |[x]=>withH h (lenR (lenV h (E.ty t) x))
    |_=>none
   |_=>none
 | .append=>match tys with
   |[t,t2]=>match args with
    |[s,x]=>oAppend E h (E.ty t) (E.ty t2) s x
    |_=>none
   |_=>none
 | .copy=>match tys with
   |t::_=>match args with
    |[d,s]=>oCopy E h (E.ty t) d s
    |_=>none
   |_=>none
 | .max=>match args with
   |x::r=>withH h (fold2 (max2 true) x r)
   |_=>none
 | .min=>match args with
   |x::r=>withH h (fold2 (max2 false) x r)
   |_=>none
 | .cap=>match tys with
   |t::_=>match args with
    |[x]=>withH h (lenR (capV (E.ty t) x))
    |_=>none
   |_=>none
 | .clear=>match tys with
   |t::_=>match args with
    |[x]=>oClear E h (E.ty t) x
    |_=>none
   |_=>none
 | .delete=>match tys with
   |t::_=>match args with
    |[m,k]=>oDelete E h (E.ty t) m k
    |_=>none
   |_=>none
 |_=>none
end Go.CM

noncomputable section
namespace Go.CM
inductive Ex where
 |normal
 |exit (id:Nat)
 |goto (l:Nat)
 |ret
inductive R where
 |code (e:Ex) (tmps:Tm) (h:Heap)
 |val (v:CV) (h:Heap)
 |pan (v:CV) (h:Heap)
 |stop
inductive Rec where
 |op (i:Nat) (fp:List Nat) (wr:Bool) (lo hi:Nat)
 |call (i:Nat) (d d':Heap)
 |opw (i:Nat) (fp ws:List Nat) (lo hi:Nat)
def Bits:Type:=Nat
def Bits.nil:Bits:=(0:Nat)
def bit (j:Nat) (a:Bits):Bool:=Nat.beq (Nat.land (Nat.shiftRight a j) 1) 1
def bitsOr (a b:Bits):Bits:=Nat.lor a b
def bitsOne (j:Nat):Bits:=Nat.shiftLeft 1 j
instance:Membership Nat Bits:=⟨λa j=>bit j a=true⟩
inductive Task where
 |code (c:Code)
 |ops (all rest:List Oper)
 |draw (bs:List Bits) (all rest:List Oper) (i:Nat) (recs:List Rec)
 |call (f:CV) (args:List CV)
def putTmp (tmps:Tm) (d:Option Nat) (v:CV):Tm:=
 match d with
 |some d=>tmps.set d (some v)
 |none=>tmps
def putArgs:Nat->List CV->Tm->Tm
 |_,[],t=>t
 |i,v::r,t=>putArgs (i+1) r (t.set i (some v))
def yieldOf (all:List Oper) (tmps:Tm) (j:Nat) (want:Bool):Option Bool:=
 match nth all j with
 |some o=>match o.dst with
  |some d=>match tmps.get d with
   |some (.bool b)=>some (b==want)
   |some (.tup l)=>match l with
    |[]=>some false
    |_::_=>none
   |_=>none
  |none=>none
 |none=>none
def guardOn (all:List Oper) (tmps:Tm) (o:Oper):Option Bool:=
 match o.guard with
 |none=>some true
 |some g=>yieldOf all tmps g.1 g.2
def resultVals (E:Env) (h:Heap) (tmps:Tm):List ResultVar->Option (List CV)
 |[]=>some []
 | .tmp t::r=>match resultVals E h tmps r with
   |some vs=>some ((tmps.get t).getD .undef::vs)
   |none=>none
 | .cell a t::r=>match tmps.get a with
   |some (.ptr (some p))=>match load E h t p.1 p.2 with
    |some v=>match resultVals E h tmps r with
     |some vs=>some (v::vs)
     |none=>none
    |none=>none
   |_=>none
def packR (vs:List CV):CV:=
 match vs with
 |[v]=>v
 |vs=> .tup vs
def findMeth (name:String):List (String×Option (FuncId×Bool))->Option (FuncId×Bool)
 |[]=>none
 |p::l=>match p.1==name with
  |true=>p.2
  |false=>findMeth name l
def methOf (E:Env) (name:String) (x:CV):Option (FuncId×CV):=
 match x with
 | .iface t v=>match E.ty t with
   |some s=>match findMeth name s.meths with
    |some m=>match s.kind with
     | .pointer _=>match m.2 with
       |true=>some (m.1,v)
       |false=>none
     |_=>match m.2 with
      |true=>none
      |false=>some (m.1,v)
    |none=>none
   |none=>none
 |_=>none
abbrev Run:=Task->Tm->Heap->R
def kSeq (run:Run) (b:Code) (r:R):R:=match r with
 | .code e tmps h=>match e with
   | .normal=>run (.code b) tmps h
   |_=>r
 |_=>r
def kCond (run:Run) (a b:Code) (tmps:Tm) (h:Heap) (c:CV):R:=match c with
 | .bool c=>match c with
   |true=>run (.code a) tmps h
   |false=>run (.code b) tmps h
 |_=> .stop
def kBlock (id:Nat) (r:R):R:=match r with
 | .code e tmps h=>match e with
   | .exit i=>match Nat.beq i id with
     |true=> .code .normal tmps h
     |false=>r
   |_=>r
 |_=>r
def kScope (r:R):R:=match r with
 | .code e _ _=>match e with
   | .goto _=> .stop
   |_=>r
 |_=>r
def endBy (c:Option Code) (tmps:Tm) (h:Heap):R:=match c with
 |none=> .code .normal tmps h
 |some c=>match c with
  | .ret=> .code .ret tmps h
  | .exit id=> .code (.exit id) tmps h
  | .goto l=> .code (.goto l) tmps h
  |_=> .stop
def kRange (i:Nat) (tmps:Tm) (r:R):R:=match r with
 | .val _ h=>match h.get i with
   |some (.loop _ _ _ _ st pend)=>match Nat.beq st 1 with
    |true=> .stop
    |false=>endBy pend tmps (h.del i)
   |_=> .stop
 | .pan v h=> .pan v (h.del i)
 |_=> .stop
def sRange (run:Run) (tmps:Tm) (h:Heap) (i:Nat) (f:CV):R:=match f with
 | .fn id first caps=>kRange i tmps (run (.call (.fn id first caps) [.yield i]) .leaf h)
 |_=> .stop
def setPs:List Nat->List CV->Tm->Option (Tm)
 |[],[],t=>some t
 |p::ps,v::vs,t=>setPs ps vs (t.set p (some v))
 |_,_,_=>none
def kRoundEnd (i:Nat) (h:Heap) (st:Nat) (pend:Option Code) (b:Bool):R:=match h.get i with
 |some (.loop tm ps asg body _ _)=> .val (.bool b) (h.put i (.loop tm ps asg body st pend))
 |_=> .stop
def kRound2 (i:Nat) (r:R):R:=match r with
 | .code e _ h=>match e with
   | .normal=>kRoundEnd i h 0 none true
   | .ret=>kRoundEnd i h 2 (some .ret) false
   | .exit id=>kRoundEnd i h 2 (some (.exit id)) false
   | .goto l=>kRoundEnd i h 2 (some (.goto l)) false
 |_=> .stop
def kRound1 (run:Run) (i:Nat) (body:Code) (r:R):R:=match r with
 | .code e t h=>match e with
   | .normal=>match h.get i with
     |some (.loop tm ps asg bd st pend)=>match Nat.beq st 0 with
      |true=>kRound2 i (run (.code body) t (h.put i (.loop tm ps asg bd 1 pend)))
      |false=> .stop
     |_=> .stop
   |_=> .stop
 |_=> .stop
def sRound (run:Run) (i:Nat) (args:List CV) (h:Heap):R:=match h.get i with
 |some (.loop tm ps asg body _ _)=>match setPs ps args tm with
  |some t=>kRound1 run i body (run (.code asg) t h)
  |none=> .stop
 |_=> .stop
def aheadOf (bs:List Bits):List Edge->Bits
 |[]=>Bits.nil
 |e::r=>match Region.binds .any e with
  |true=>bitsOr (bitsOne e.on) (bitsOr ((nth bs e.on).getD Bits.nil) (aheadOf bs r))
  |false=>aheadOf bs r
def aheads:List Oper->List Bits->List Bits
 |[],bs=>bs
 |o::r,bs=>aheads r (bs++[aheadOf bs o.after.toList])
def edgesBack:Nat->List Oper->Bool
 |_,[]=>true
 |i,o::r=>(o.after.toList.all λe=>match Region.binds .any e with|true=>Nat.blt e.on i|false=>true)&&edgesBack (i+1) r
def sCode (E:Env) (run:Run) (c:Code) (tmps:Tm) (h:Heap):R:=
    match c with
    | .skip=> .code .normal tmps h
    | .label _=> .code .normal tmps h
    | .ret=> .code .ret tmps h
    | .exit id=> .code (.exit id) tmps h
    | .goto l=> .code (.goto l) tmps h
    | .region _ ops d=>match d with
      |false=>run (.ops ops.toList ops.toList) tmps h
      |true=>run (.draw (aheads ops.toList []) ops.toList ops.toList 0 []) tmps h
    | .seq a b=>kSeq run b (run (.code a) tmps h)
    | .cond c a b=>kCond run a b tmps h (cvOf E.globs tmps c)
    | .block id b=>kBlock id (run (.code b) tmps h)
    | .scope b=>kScope (run (.code b) tmps h)
    | .loop b=>kSeq run (.loop b) (run (.code b) tmps h)
    | .rangeFunc f ps asg body=>sRange run tmps (h.new (.loop tmps ps.toList asg body 0 none)) h.next (cvOf E.globs tmps f)
    |_=> .stop
def nextV (run:Run) (all r:List Oper) (dst:Option Nat) (tmps:Tm) (x:Option (CV×Heap)):R:=match x with
 |some p=>run (.ops all r) (putTmp tmps dst p.1) p.2
 |none=> .stop
def nextR (run:Run) (all r:List Oper) (dst:Option Nat) (tmps:Tm) (x:R):R:=match x with
 | .val v h=>run (.ops all r) (putTmp tmps dst v) h
 | .pan v h=> .pan v h
 |_=> .stop
def sInvoke (run:Run) (args:List CV) (h:Heap) (x:Option (FuncId×CV)):R:=match x with
 |some p=>run (.call (.fn p.1 [] []) (p.2::args)) .leaf h
 |none=> .stop
def sCallee (E:Env) (run:Run) (tmps:Tm) (h:Heap) (args:List CV) (callee:Callee):R:=
 match callee with
 | .value f=>run (.call (cvOf E.globs tmps f) args) .leaf h
 | .invoke x name=>sInvoke run args h (methOf E name (cvOf E.globs tmps x))
 |_=> .stop
def isBuiltin:Callee->Option Builtin
 | .builtin b=>some b
 |_=>none
def sOp (E:Env) (run:Run) (all r:List Oper) (o:Oper) (tmps:Tm) (h:Heap):R:=
 match o.op with
 | .call c=>match isBuiltin c.callee with
   |some b=>nextV run all r o.dst tmps (builtinV E h b c.argTypes.toList (c.args.toList.map (cvOf E.globs tmps)))
   |none=>nextR run all r o.dst tmps (sCallee E run tmps h (c.args.toList.map (cvOf E.globs tmps)) c.callee)
 | .panic x=>match cvOf E.globs tmps x with
   | .iface t v=> .pan (.iface t v) h
   |_=> .stop
 |_=>nextV run all r o.dst tmps (opVal E o.op (cvOf E.globs tmps) h)
def sOps (E:Env) (run:Run) (all rest:List Oper) (tmps:Tm) (h:Heap):R:=
    match rest with
    |[]=> .code .normal tmps h
    |o::r=>match guardOn all tmps o with
     |some true=>sOp E run all r o tmps h
     |some false=>run (.ops all r) (putTmp tmps o.dst (.tup [])) h
     |none=> .stop
def idOf (x:CV):List Nat:=match x with
 | .ptr (some p)=>[p.1]
 | .slice (some p) _ _ _=>[p.1]
 | .map (some r)=>[r]
 |_=>[]
def mapIds (l:List CV):List Nat:=match l with
 |[.map (some r)]=>[r]
 |_=>[]
def fpOf (o:Op) (ρ:Operand->CV):List Nat:=match o with
 | .load _ a=>idOf (ρ a)
 | .store _ a _=>idOf (ρ a)
 | .insert _ m _ _=>idOf (ρ m)
 | .mapUpdate _ m _ _=>idOf (ρ m)
 | .mapEntry _ m _=>idOf (ρ m)
 | .entryStore _ m _ _=>idOf (ρ m)
 | .lookup _ m _ _=>idOf (ρ m)
 | .convert _ _ x=>idOf (ρ x)
 | .call c=>match c.callee with
   | .builtin .len=>mapIds (c.args.toList.map ρ)
   |_=>(c.args.toList.map λx=>idOf (ρ x)).flatten
 |_=>[]
def wrOf (o:Op):Bool:=match o with
 | .store .. =>true
 | .insert .. =>true
 | .mapUpdate .. =>true
 | .mapEntry .. =>true
 | .entryStore .. =>true
 | .call c=>match c.callee with
   | .builtin .append=>true
   | .builtin .copy=>true
   | .builtin .clear=>true
   | .builtin .delete=>true
   |_=>false
 |_=>false
def only(h:Heap):List Nat->Heap
 |[]=>⟨.leaf,h.next,none⟩
 |i::r=>let d:=only h r;⟨d.t.set i (h.get i),h.next,none⟩
def without (h:Heap):List Nat->Heap
 |[]=>h
 |i::r=>(without h r).del i
def back (h d:Heap):List Nat->Heap
 |[]=>⟨h.t,d.next,none⟩
 |i::r=>let x:=back h d r;⟨x.t.set i (d.get i),d.next,none⟩
def span (lo:Nat) (n:Nat):List Nat:=Nat.rec [] (λk ih=>(lo+k)::ih) n
def mem (i:Nat):List Nat->Bool
 |[]=>false
 |j::r=>match Nat.beq i j with
  |true=>true
  |false=>mem i r
def within (i lo hi:Nat):Bool:=Nat.ble lo i&&Nat.blt i hi
def all1 (l:List Nat) (p:Nat->Bool):Bool:=List.rec true (λi _ ih=>match p i with|true=>ih|false=>false) l
def mesEq:List ME->List ME->Bool
 |[],[]=>true
 |a::x,b::y=>cvEq a.key b.key&&cvEq a.val b.val&&Nat.beq a.born b.born&&mesEq x y
 |_,_=>false
def blkEq:Option Blk->Option Blk->Bool
 |none,none=>true
 |some (.cells a x),some (.cells b y)=>cvsEq a b&&x==y
 |some (.map a c),some (.map b d)=>mesEq a b&&Nat.beq c d
 |some (.strIter a p),some (.strIter b q)=>bytesEq a b&&Nat.beq p q
 |_,_=>false
def isNo (b:Option Blk):Bool:=match b with
 |none=>true
 |some _=>false
def okPair (fp:List Nat) (wr:Bool) (news:List Nat) (r:Rec):Bool:=match r with
 | .op _ fp' wr' lo hi=>
   match(all1 fp λk=>match within k lo hi with
    |true=>false
    |false=>match wr||wr' with
     |true=> !mem k fp'
     |false=>true)with
   |true=>all1 news λk=> !mem k fp'
   |false=>false
 | .call _ d d'=>
   match(all1 fp λk=>match blkEq (d.get k) (d'.get k)with
    |true=>match wr with
     |true=>isNo (d.get k)
     |false=>true
    |false=>false)with
   |true=>all1 news λk=>match isNo (d.get k)with
    |true=>isNo (d'.get k)
    |false=>false
   |false=>false
 | .opw _ fp' ws' lo hi=>
   match(all1 fp λk=>match within k lo hi||mem k ws' with
    |true=>false
    |false=>match wr with
     |true=> !mem k fp'
     |false=>true)with
   |true=>all1 news λk=> !mem k fp'
   |false=>false
def recIdx:Rec->Nat
 | .op i _ _ _ _=>i
 | .call i _ _=>i
 | .opw i _ _ _ _=>i
def okPairs (ahead:Bits) (fp:List Nat) (wr:Bool) (news:List Nat):List Rec->Bool
 |[]=>true
 |r::rs=>match okPair fp wr news r with
  |true=>okPairs ahead fp wr news rs
  |false=>match bit (recIdx r) ahead with
   |true=>okPairs ahead fp wr news rs
   |false=>false
def hides (ahead:Bits):List Rec->Option (List Nat)
 |[]=>some []
 |r::rs=>match hides ahead rs with
  |none=>none
  |some l=>match bit (recIdx r) ahead with
   |true=>some l
   |false=>match r with
    | .op _ fp wr lo hi=>some (span lo (hi-lo)++(match wr with|true=>fp|false=>[])++l)
    | .call _ _ _=>none
    | .opw _ _ ws lo hi=>some (span lo (hi-lo)++ws++l)
def looks (ahead:Bits) (d d':Heap):List Rec->Bool
 |[]=>true
 |r::rs=>match bit (recIdx r) ahead with
  |true=>looks ahead d d' rs
  |false=>match r with
   | .op _ fp _ _ _=>(all1 fp λk=>blkEq (d.get k) (d'.get k))&&looks ahead d d' rs
   | .call _ _ _=>false
   | .opw _ fp _ _ _=>(all1 fp λk=>blkEq (d.get k) (d'.get k))&&looks ahead d d' rs
def isNil {α:Type}:List α->Bool
 |[]=>true
 |_::_=>false
def dNext (run:Run) (bs:List Bits) (all r:List Oper) (i:Nat) (recs:List Rec) (dst:Option Nat) (tmps:Tm) (h:Heap) (fp:List Nat) (wr:Bool) (x:Option (CV×Heap)):R:=match x with
 |some p=>match isNil fp&&Nat.beq p.2.next h.next with
  |true=>run (.draw bs all r (i+1) recs) (putTmp tmps dst p.1) h
  |false=>match okPairs ((nth bs i).getD Bits.nil) fp wr (span h.next (p.2.next-h.next)) recs with
   |true=>run (.draw bs all r (i+1) (.op i fp wr h.next p.2.next::recs)) (putTmp tmps dst p.1) (back h p.2 (fp++span h.next (p.2.next-h.next)))
   |false=> .stop
 |none=> .stop
def apWs:List CV->List Nat
 |[]=>[]
 |s::_=>idOf s
def isApp:Builtin->Bool
 | .append=>true
 |_=>false
def dNextW (run:Run) (bs:List Bits) (all r:List Oper) (i:Nat) (recs:List Rec) (dst:Option Nat) (tmps:Tm) (h:Heap) (fp ws:List Nat) (x:Option (CV×Heap)):R:=match x with
 |some p=>match isNil fp&&Nat.beq p.2.next h.next with
  |true=>run (.draw bs all r (i+1) recs) (putTmp tmps dst p.1) h
  |false=>match okPairs ((nth bs i).getD Bits.nil) fp false (span h.next (p.2.next-h.next)) recs&&okPairs ((nth bs i).getD Bits.nil) ws true (span h.next (p.2.next-h.next)) recs with
   |true=>run (.draw bs all r (i+1) (.opw i fp ws h.next p.2.next::recs)) (putTmp tmps dst p.1) (back h p.2 (fp++span h.next (p.2.next-h.next)))
   |false=> .stop
 |none=> .stop
def dCall (run:Run) (bs:List Bits) (all r:List Oper) (i:Nat) (recs:List Rec) (dst:Option Nat) (tmps:Tm) (h d:Heap) (hid:List Nat) (x:R):R:=match x with
 | .val v d'=>match Nat.ble h.next d'.next&&(looks ((nth bs i).getD Bits.nil) d d' recs&&all1 hid λk=>isNo (d'.get k))with
   |true=>run (.draw bs all r (i+1) (.call i d d'::recs)) (putTmp tmps dst v) (back d' ⟨h.t,d'.next,none⟩ hid)
   |false=> .stop
 |_=> .stop
def dHid (E:Env) (run:Run) (bs:List Bits) (all r:List Oper) (o:Oper) (c:Call) (i:Nat) (recs:List Rec) (tmps:Tm) (h:Heap) (hid:Option (List Nat)):R:=match hid with
 |some hid=>dCall run bs all r i recs o.dst tmps h (without h hid) hid (sCallee E run tmps (without h hid) (c.args.toList.map (cvOf E.globs tmps)) c.callee)
 |none=> .stop
def dOp (E:Env) (run:Run) (bs:List Bits) (all r:List Oper) (o:Oper) (i:Nat) (recs:List Rec) (tmps:Tm) (h:Heap):R:=
 match o.op with
 | .call c=>match isBuiltin c.callee with
   |some b=>match isApp b with
    |true=>dNextW run bs all r i recs o.dst tmps h (fpOf o.op (cvOf E.globs tmps)) (apWs (c.args.toList.map (cvOf E.globs tmps))) (builtinV E (only h (fpOf o.op (cvOf E.globs tmps))) b c.argTypes.toList (c.args.toList.map (cvOf E.globs tmps)))
    |false=>dNext run bs all r i recs o.dst tmps h (fpOf o.op (cvOf E.globs tmps)) (wrOf o.op) (builtinV E (only h (fpOf o.op (cvOf E.globs tmps))) b c.argTypes.toList (c.args.toList.map (cvOf E.globs tmps)))
   |none=>dHid E run bs all r o c i recs tmps h (hides ((nth bs i).getD Bits.nil) recs)
 |_=>dNext run bs all r i recs o.dst tmps h (fpOf o.op (cvOf E.globs tmps)) (wrOf o.op) (opVal E o.op (cvOf E.globs tmps) (only h (fpOf o.op (cvOf E.globs tmps))))
def sDraw (E:Env) (run:Run) (bs:List Bits) (all rest:List Oper) (i:Nat) (recs:List Rec) (tmps:Tm) (h:Heap):R:=
    match rest with
    |[]=> .code .normal tmps h
    |o::r=>match guardOn all tmps o with
     |some true=>dOp E run bs all r o i recs tmps h
     |some false=>run (.draw bs all r (i+1) recs) (putTmp tmps o.dst (.tup [])) h
     |none=> .stop
def kBody (E:Env) (rs:List ResultVar) (r:R):R:=match r with
 | .code e tmps h=>match e with
   | .normal=>match resultVals E h tmps rs with
     |some vs=> .val (packR vs) h
     |none=> .stop
   | .ret=>match resultVals E h tmps rs with
     |some vs=> .val (packR vs) h
     |none=> .stop
   |_=> .stop
 | .pan v h=> .pan v h
 |_=> .stop
def sBody (E:Env) (run:Run) (args:List CV) (h:Heap) (f:Option FnS):R:=match f with
     |some f=>match f.body with
      |some c=>match Nat.ble (len args) f.ntmps with
       |true=>kBody E f.results (run (.code c) (putArgs 0 args .leaf) h)
       |false=> .stop
      |none=> .stop
     |none=> .stop
def CV.noId:CV->Bool
 | .bool _=>true
 | .int _ _=>true
 | .str _=>true
 | .ptr none=>true
 | .slice none _ _ _=>true
 | .empty=>true
 | .map none=>true
 | .nilFunc=>true
 | .nilIface=>true
 |_=>false
def mtNew (a:Nat) (σ:List Nat) (b:Bool):Option (List Nat):=match b with
 |true=>some (σ++[a])
 |false=>none
def mtOld (σ:List Nat) (b:Bool):Option (List Nat):=match b with
 |true=>some σ
 |false=>none
def mtId (g:Nat) (σ:List Nat) (i a:Nat):Option (List Nat):=match Nat.blt i g with
 |true=>mtOld σ (Nat.beq i a)
 |false=>match nth σ (i-g)with
  |some b=>mtOld σ (Nat.beq a b)
  |none=>mtNew a σ (Nat.beq (i-g) (len σ)&&(!mem a σ&&Nat.ble g a))
def mt1 (g:Nat) (σ:List Nat) (c a:CV):Option (List Nat):=match c with
 | .ptr (some p)=>match a with
   | .ptr (some q)=>match Nat.beq p.2 q.2 with
     |true=>mtId g σ p.1 q.1
     |false=>none
   |_=>none
 | .slice (some p) n cap x=>match a with
   | .slice (some q) n' cap' x'=>match Nat.beq p.2 q.2&&(Nat.beq n n'&&(Nat.beq cap cap'&&Nat.beq x x'))with
     |true=>mtId g σ p.1 q.1
     |false=>none
   |_=>none
 |_=>match c.noId with
  |true=>mtOld σ (cvEq c a)
  |false=>none
def mts (g:Nat):List CV->List CV->List Nat->Option (List Nat)
 |[],[],σ=>some σ
 |c::cs,a::as,σ=>match mt1 g σ c a with
  |some σ'=>mts g cs as σ'
  |none=>none
 |_,_,_=>none
def mtA (g:Nat) (σ:List Nat) (c a:CV):Option (List Nat):=match c with
 | .agg cs=>match a with
   | .agg as=>mts g cs as σ
   |_=>none
 |_=>mt1 g σ c a
def mtAs (g:Nat):List CV->List CV->List Nat->Option (List Nat)
 |[],[],σ=>some σ
 |c::cs,a::as,σ=>match mtA g σ c a with
  |some σ'=>mtAs g cs as σ'
  |none=>none
 |_,_,_=>none
def mtB (h:Heap) (g:Nat):List (List CV)->Nat->List Nat->Option (List Nat)
 |[],_,σ=>some σ
 |b::r,i,σ=>match nth σ i with
  |some a=>match h.get a with
   |some (.cells cs _)=>match mts g b cs σ with
    |some σ'=>mtB h g r (i+1) σ'
    |none=>none
   |_=>none
  |none=>none
def mtE (h:Heap) (g:Nat) (e:KE) (vs:List CV):Option (List Nat):=match mtAs g e.args vs []with
 |some σ=>match mtB h g e.blks 0 σ with
  |some σ'=>mtOld σ' (Nat.ble (len σ') (len e.blks))
  |none=>none
 |none=>none
def renId (g n0:Nat) (σ:List Nat) (base i:Nat):Option Nat:=match Nat.blt i g with
 |true=>some i
 |false=>match nth σ (i-g)with
  |some a=>some a
  |none=>match Nat.ble (g+n0) i with
   |true=>some (base+(i-(g+n0)))
   |false=>none
def ren1 (R:Nat->Option Nat) (c:CV):Option CV:=match c with
 | .ptr (some p)=>match R p.1 with
   |some a=>some (.ptr (some (a,p.2)))
   |none=>none
 | .slice (some p) n cap x=>match R p.1 with
   |some a=>some (.slice (some (a,p.2)) n cap x)
   |none=>none
 |_=>match c.noId with
  |true=>some c
  |false=>none
def rens (R:Nat->Option Nat):List CV->Option (List CV)
 |[]=>some []
 |c::cs=>match ren1 R c with
  |some d=>match rens R cs with
   |some ds=>some (d::ds)
   |none=>none
  |none=>none
def renA (R:Nat->Option Nat) (c:CV):Option CV:=match c with
 | .agg cs=>match rens R cs with
   |some ds=>some (.agg ds)
   |none=>none
 |_=>ren1 R c
def renAs (R:Nat->Option Nat):List CV->Option (List CV)
 |[]=>some []
 |c::cs=>match renA R c with
  |some d=>match renAs R cs with
   |some ds=>some (d::ds)
   |none=>none
  |none=>none
def renT (R:Nat->Option Nat) (c:CV):Option CV:=match c with
 | .tup cs=>match renAs R cs with
   |some ds=>some (.tup ds)
   |none=>none
 |_=>renA R c
def renB (R:Nat->Option Nat):List (List CV)->Option (List (List CV))
 |[]=>some []
 |b::bs=>match rens R b with
  |some d=>match renB R bs with
   |some ds=>some (d::ds)
   |none=>none
  |none=>none
def kGive (R:Nat->Option Nat) (e:KE):Option (CV×List (List CV)):=match renT R e.res with
 |some v=>match renB R e.news with
  |some bs=>some (v,bs)
  |none=>none
 |none=>none
def kAdd:Heap->List (List CV)->Heap
 |h,[]=>h
 |h,b::r=>kAdd (h.new (.cells b false)) r
def kfind (h:Heap) (g f:Nat) (vs:List CV):List KE->Option (CV×List (List CV))
 |[]=>none
 |e::r=>match Nat.beq e.f f with
  |true=>match mtE h g e vs with
   |some σ=>match kGive (renId g (len e.blks) σ h.next) e with
    |some p=>some p
    |none=>kfind h g f vs r
   |none=>kfind h g f vs r
  |false=>kfind h g f vs r
def rowIs (cs:List CV) (b:Option Blk):Bool:=match b with
 |some (.cells l true)=>cvsEq l cs
 |_=>false
def rowsHold (h:Heap):List (Nat×List CV)->Bool
 |[]=>true
 |r::rs=>match rowIs r.2 (h.get r.1)with
  |true=>rowsHold h rs
  |false=>false
def kKnown (p:CV×List (List CV)) (h:Heap) (b:Bool):R:=match b with
 |true=> .val p.1 (kAdd h p.2)
 |false=> .stop
def sFn (E:Env) (run:Run) (vs:List CV) (h:Heap) (id:Nat) (k:Option (CV×List (List CV))):R:=match k with
 |some v=>kKnown v h (rowsHold h E.rows)
 |none=>sBody E run vs h (E.fn id)
def sCall (E:Env) (run:Run) (args:List CV) (h:Heap) (f:CV):R:=match f with
    | .fn id first caps=>sFn E run (first++args++caps) h id (kfind h E.globs id (first++args++caps) E.known)
    | .yield i=>sRound run i args h
    |_=> .stop
def stepR (E:Env) (run:Run) (t:Task) (tmps:Tm) (h:Heap):R:=
 match t with
 | .code c=>sCode E run c tmps h
 | .ops all rest=>sOps E run all rest tmps h
 | .draw bs all rest i recs=>sDraw E run bs all rest i recs tmps h
 | .call f args=>sCall E run args h f
def run (E:Env) (n:Nat):Run:=Nat.rec (λ_ _ _=> .stop) (λ_ ih=>stepR E ih) n
def dstOk (n:Nat) (o:Oper):Bool:=match o.dst with
 |some d=>Nat.blt d n
 |none=>true
def allOk (p:Oper->Bool) (l:List Oper):Bool:=List.rec true (λo _ ih=>match p o with|true=>ih|false=>false) l
def tmpsOf:List Operand->List Nat
 |[]=>[]
 | .tmp t::r=>t::tmpsOf r
 |_::r=>tmpsOf r
def looksAt (all:List Oper) (o:Oper):List Nat:=
 tmpsOf o.op.operands.toList++(match o.guard with
  |some g=>match nth all g.1 with
   |some x=>x.dst.toList
   |none=>[]
  |none=>[])
def noMem (d:Option Nat) (l:List Nat):Bool:=match d with
 |some d=> !mem d l
 |none=>true
def neDst (a b:Option Nat):Bool:=match a with
 |some d=>match b with
  |some e=> !Nat.beq d e
  |none=>true
 |none=>true
def tmpPair (lx ly:List Nat) (x y:Oper):Bool:=noMem x.dst ly&&noMem y.dst lx&&neDst x.dst y.dst
def tmpPairs (all:List Oper) (ahead:Bits) (ly:List Nat) (y:Oper):Nat->Nat->List Oper->Bool
 |_,0,_=>true
 |_,_+1,[]=>true
 |j,n+1,x::r=>match bit j ahead with
  |true=>tmpPairs all ahead ly y (j+1) n r
  |false=>match tmpPair (looksAt all x) ly x y with
   |true=>tmpPairs all ahead ly y (j+1) n r
   |false=>false
def tmpsOk (all:List Oper) (bs:List Bits):Nat->List Oper->Bool
 |_,[]=>true
 |i,y::r=>match tmpPairs all ((nth bs i).getD Bits.nil) (looksAt all y) y 0 i all with
  |true=>tmpsOk all bs (i+1) r
  |false=>false
def drawOk (l:List Oper):Bool:=edgesBack 0 l&&tmpsOk l (aheads l []) 0 l
def noRange:Code->Bool
 | .seq a b=>match noRange a with
   |true=>noRange b
   |false=>false
 | .cond _ a b=>match noRange a with
   |true=>noRange b
   |false=>false
 | .block _ c=>noRange c
 | .scope c=>noRange c
 | .loop c=>noRange c
 | .rangeFunc _ _ _ _=>false
 |_=>true
def dstsOk (n:Nat):Code->Bool
 | .region _ ops d=>match allOk (dstOk n) ops.toList with
   |true=>match d with
    |true=>drawOk ops.toList
    |false=>true
   |false=>false
 | .seq a b=>match dstsOk n a with
   |true=>dstsOk n b
   |false=>false
 | .cond _ a b=>match dstsOk n a with
   |true=>dstsOk n b
   |false=>false
 | .block _ c=>dstsOk n c
 | .scope c=>dstsOk n c
 | .loop c=>dstsOk n c
 | .rangeFunc _ ps a b=>match all1 ps.toList λp=>Nat.blt p n with
   |true=>match dstsOk n a with
    |true=>match dstsOk n b with
     |true=>match noRange a with
      |true=>noRange b
      |false=>false
     |false=>false
    |false=>false
   |false=>false
 |_=>true
def kindOf (d:TypeDesc):TyK:=
 match d with
 | .bool=> .bool
 | .int k=> .int k
 | .string=> .string
 | .pointer e=> .pointer e
 | .slice e=> .slice e
 | .array n e=> .array n e
 | .map k e=> .map k e
 | .struct fs=>match fs.toList.all λf=>f.name != "_" with
   |true=> .struct (fs.toList.map λf=>(f.type,f.offset))
   |false=> .other
 | .func .. => .func
 | .interface _=> .iface
 |_=> .other
def isAggD (d:TypeDesc):Bool:=
 match d with
 | .struct _=>true
 | .array _ _=>true
 |_=>false
def methsOf (l:List Method):List (String×Option (FuncId×Bool)):=
 l.map λm=>(m.name,match m.func with
  |some p=>match m.path.toList with
   |[]=>some p
   |_=>none
  |none=>none)
def aggV (z:Value):Bool:=
 match z with
 | .agg _=>true
 |_=>false
def tyOf (P:Program) (t:TypeId) (cmp:Bool):Option TyS:=
 match P.info? t,P.underlying t with
 |some i,some d=>match i.zero with
  |some z=>match consts z.cells.toList with
   |some cs=>match Nat.beq (len cs) i.size&&(aggV z==isAggD d)with
    |true=>some ⟨kindOf d,i.size,i.bytes,cs,isAggD d,cmp,methsOf i.methods.toList⟩
    |false=>none
   |none=>none
  |none=>none
 |_,_=>none
end Go.CM
