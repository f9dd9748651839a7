/- Places in a row, bounds of a sheet, copies. No condition but that memory beyond the next number is empty. -/
import Derived.Test.YtnjkaahbhebaeaaGreatDoorXU
import Derived.Test.YtnjkaahbhebaeaaGreatDoorYE
import Derived.Test.YtnjkaahbhebaeaaGreatDoorYA
import Derived.Test.YtnjkaahbhebaeaaGreatDoorZB
import Derived.Test.YtnjkaahbhebaeaaGreatDoorXZ
import Derived.Test.YtnjkaahbhebaeaaGreatDoorYP
set_option linter.unusedVariables false
set_option linter.unusedSimpArgs false
set_option maxRecDepth 100000
namespace Go.Proofs.YtnjkaahbhebaeaaGreatDoor
open Go Go.CM Go.CM.Tt
noncomputable section
set_option maxHeartbeats 8000000
theorem own_int {h:Heap} {tm:Tm} {Q:R->Prop} {v:CV} {l:List Int} (sl:Sl h v l) (hm:l.length<=1073741824)
  (q:∀h' v',Ext h h'->OwnR h' h.next 1 v' (l.map Flat.enc)->Q (.val v' h')):W E1 (.call (.fn 89 [] []) [v]) tm h Q:=by
 refine W.fn (s:=fnOf Tryz.f89) rfl rfl rfl rfl ?_;have sg:=Sl.to_map Flat.iff sl;have hlen:(l.map (Flat.enc:Int->List CV)).length=l.length:=List.length_map _;repeat (first|refine W.g ?_|refine W.n λh_ X_ n_ g_ S_=> ?_)
 refine W.apR X_ (z:=1) (l:=[]) (l2:=l.map Flat.enc) (.inr ⟨h.next,0,false,rfl,Nat.le_refl _,by omega,g_,λe he=>(by cases he),.inl ⟨rfl,.inl rfl⟩⟩) (sg.ext X_) rfl rfl rfl rfl rfl rfl rfl rfl rfl rfl rfl rfl (by rw[hlen];show(0+l.length)*8<=_;omega) λv' h' X O=> ?_;repeat refine W.g ?_
 exact q _ _ X O
end
end Go.Proofs.YtnjkaahbhebaeaaGreatDoor

namespace Go.Proofs.YtnjkaahbhebaeaaGreatDoor
open Go Go.CM Go.CM.Tt
noncomputable section
set_option maxHeartbeats 16000000
theorem list_same {α:Type} {l m:List α} (hn:l.length=m.length) (hl:∀j:Nat,j<l.length->l[j]? =m[j]?):l=m:=by
 apply List.ext_getElem? ;intro j;by_cases hj:j<l.length
 ·exact hl j hj
 ·rw[List.getElem?_eq_none (by omega),List.getElem?_eq_none (by omega)]
theorem list_differ {α:Type} {l m:List α} {k:Nat} (h1:k<l.length) (h2:k<m.length) (hd:¬l[k]=m[k]):¬l=m:=λe=>hd (by subst e;rfl)
theorem same2_int {h:Heap} {tm:Tm} {Q:R->Prop} {v w:CV} {l m:List Int} (fr:Fresh h) (s1:Sl h v l) (s2:Sl h w m) (hm:l.length<=1099511627776) (hm2:m.length<=1099511627776) (q:∀h' (b:Bool),Ext h h'->(b=true↔l=m)->Q (.val (.bool b) h')):W E1 (.call (.fn 99 [] []) [v,w]) tm h Q:=by
 refine W.fn (s:=fnOf Tryz.f99) rfl rfl rfl rfl ?_;by_cases c0:l.length=m.length
 case neg=>
  have c0':¬(l.length:Int)=(m.length:Int):=by omega
  repeat refine W.g ?_
  exact q _ false (Ext.refl _) (Iff.intro (λh=>by cases h) (λh=>absurd (by rw[h]) c0))
 have c0':(l.length:Int)=(m.length:Int):=by omega
 repeat refine W.g ?_
 refine W.loop (σ:=Nat) (λk tm h'=>Ext h h'/\tm.look 0=v/\tm.look 1=w/\tm.look 5= .int .i64 (k:Int)/\k<=l.length/\∀j:Nat,j<k->l[j]? =m[j]?) (λk=>l.length-k) ?_ (s:=0) ⟨Ext.refl _,rfl,rfl,rfl,Nat.zero_le _,λj hj=>by omega⟩;rintro k tm h' ⟨X,w0,w1,w5,hk,hl⟩;obtain⟨T,rfl⟩:=Tm.t3 w0 w1 w5;clear w0 w1 w5;by_cases c1:k<l.length
 ·have c2:k<m.length:=by omega
  repeat refine W.g ?_
  have ds:=DX.start (X.fr fr);try refine W.dv ?_
  refine W.dixF s1 c1 rfl rfl rfl rfl rfl rfl rfl λi1 o1 L1=> ?_;repeat (first|refine W.gd ?_|refine W.e λr_ h_ ds_ s_=> ?_)
  clear ds;have X1:=ds_.x;refine W.dixF s2 c2 rfl rfl rfl rfl rfl rfl rfl λi2 o2 L2=> ?_;repeat (first|refine W.gd ?_|refine W.e λr_ h_ ds_ s_=> ?_)
  have X2:=ds_.x;by_cases d1:l[k]=m[k]
  ·have d1:l[k]=m[k]:=d1
   repeat refine W.g ?_
   exact⟨k+1,lessN c1,X.trans X2,rfl,rfl,rfl,c1,λj hj=>by
    by_cases e:j=k
    ·rw[e,List.getElem?_eq_getElem c1,List.getElem?_eq_getElem c2,d1]
    ·exact hl j (by omega)⟩
  ·have d1:¬l[k]=m[k]:=d1
   repeat refine W.g ?_
   exact q _ false (X.trans X2) (Iff.intro (λh=>by cases h) (λh=>absurd h (list_differ c1 c2 d1)))
 ·repeat refine W.g ?_
  exact q _ true X (Iff.intro (λ_=>list_same c0 λj hj=>hl j (by omega)) (λ_=>rfl))
end
end Go.Proofs.YtnjkaahbhebaeaaGreatDoor
