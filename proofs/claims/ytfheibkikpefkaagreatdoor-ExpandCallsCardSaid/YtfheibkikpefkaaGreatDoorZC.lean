/- Places in a row, bounds of a sheet, copies. No condition but that memory beyond the next number is empty. -/
import Derived.Test.YtfheibkikpefkaaGreatDoorXU
import Derived.Test.YtfheibkikpefkaaGreatDoorYE
import Derived.Test.YtfheibkikpefkaaGreatDoorYA
import Derived.Test.YtfheibkikpefkaaGreatDoorZB
import Derived.Test.YtfheibkikpefkaaGreatDoorXZ
import Derived.Test.YtfheibkikpefkaaGreatDoorYP
set_option linter.unusedVariables false
set_option linter.unusedSimpArgs false
namespace Go.Proofs.YtfheibkikpefkaaGreatDoor
open Go Go.CM Go.CM.Tt
noncomputable section
set_option maxHeartbeats 8000000
theorem aGq {h:Heap} {tm:Tm} {Q:R->Prop} {v:CV} {l:List Int} (sl:Sl h v l) (hm:l.length<=1073741824)
  (q:∀h' v',Ext h h'->OwnR h' h.next 1 v' (l.map Flat.enc)->Q (.val v' h')):W E1 (.call (.fn 60 [] []) [v]) tm h Q:=by
 refine W.fn (s:=aB Tryz.f60) rfl rfl rfl rfl ?_;have sg:=aU Flat.iff sl;have hlen:(l.map (Flat.enc:Int->List CV)).length=l.length:=List.length_map _;repeat (first|refine W.g ?_|refine W.n λh_ X_ n_ g_ S_=> ?_)
 refine dK X_ (z:=1) (l:=[]) (l2:=l.map Flat.enc) (.inr ⟨h.next,0,false,rfl,Nat.le_refl _,by omega,g_,λe he=>(by cases he),.inl ⟨rfl,.inl rfl⟩⟩) (sg.ext X_) rfl rfl rfl rfl rfl rfl rfl rfl rfl rfl rfl rfl (by rw[hlen];show(0+l.length)*8<=_;omega) λv' h' X O=> ?_;repeat refine W.g ?_
 exact q _ _ X O
end
end Go.Proofs.YtfheibkikpefkaaGreatDoor

namespace Go.Proofs.YtfheibkikpefkaaGreatDoor
open Go Go.CM Go.CM.Tt
noncomputable section
set_option maxHeartbeats 200000000
set_option maxRecDepth 100000
def _root_.Go.CM.Tt.WorldD.lightW4 (w:WorldD):Prop:=w.names.stops.length<=40/\w.names.paths.length<=40/\w.names.doors.length<=40/\w.names.routes.length<=40/\w.names.trips.length<=40/\w.names.hazards.length<=40/\w.paths.length<=40/\w.doors.length<=40/\w.routes.length<=40/\w.trips.length<=40/\w.hazards.length<=40/\∀r∈w.routes,r.stops.length<=60/\r.rides.length<=60/\r.stays.length<=60
theorem jQ {h:Heap} {tm:Tm} {Q:R->Prop} {cs:List CV} {w:WorldD} (r:Rp.R h cs w) (q:∀h' (b:Bool),Ext h h'->(b=true↔w.lightW4)->Q (.val (.bool b) h')):W E1 (.call (.fn 29 [] []) [.agg cs,.int .i64 40]) tm h Q:=by
 obtain⟨a1,a2,a3,a4,a5,a6,a7,a8,a9,a10,a11,rfl,p1,p2,p3,p4,p5,p6,p7,p8,p9,p10,p11⟩:=r;refine W.fn (s:=aB Tryz.f29) rfl rfl rfl rfl ?_;by_cases c1:40<w.names.stops.length
 ·repeat (first|refine W.g ?_|refine W.m λh_ X_ n_ g_ L_=> ?_)
  exact q _ false Ext.x (Iff.intro (λh=>by cases h) (λh=>by have:=h.1;omega))
 by_cases c2:40<w.names.paths.length
 ·repeat (first|refine W.g ?_|refine W.m λh_ X_ n_ g_ L_=> ?_)
  exact q _ false Ext.x (Iff.intro (λh=>by cases h) (λh=>by have:=h.2.1;omega))
 by_cases c3:40<w.names.doors.length
 ·repeat (first|refine W.g ?_|refine W.m λh_ X_ n_ g_ L_=> ?_)
  exact q _ false Ext.x (Iff.intro (λh=>by cases h) (λh=>by have:=h.2.2.1;omega))
 by_cases c4:40<w.names.routes.length
 ·repeat (first|refine W.g ?_|refine W.m λh_ X_ n_ g_ L_=> ?_)
  exact q _ false Ext.x (Iff.intro (λh=>by cases h) (λh=>by have:=h.2.2.2.1;omega))
 by_cases c5:40<w.names.trips.length
 ·repeat (first|refine W.g ?_|refine W.m λh_ X_ n_ g_ L_=> ?_)
  exact q _ false Ext.x (Iff.intro (λh=>by cases h) (λh=>by have:=h.2.2.2.2.1;omega))
 by_cases c6:40<w.names.hazards.length
 ·repeat (first|refine W.g ?_|refine W.m λh_ X_ n_ g_ L_=> ?_)
  exact q _ false Ext.x (Iff.intro (λh=>by cases h) (λh=>by have:=h.2.2.2.2.2.1;omega))
 repeat (first|refine W.g ?_|refine W.m λh_ X_ n_ g_ L_=> ?_)
 rename_i H1 X1 n1 g1 L1;have L1:=L1.ext X_;have XH:Ext h h_:=X1.trans X_;obtain⟨H,hH⟩:∃H,H=h_:=⟨_,rfl⟩;rw[<-hH]at XH L1 ⊢;clear n1 g1 n_ g_ L_ X_ hH;have p9:=p9.ext XH;refine cD 1 2 54 λT=> ?_;by_cases c7:40<w.paths.length
 ·repeat refine W.g ?_
  exact q _ false Ext.x (Iff.intro (λh=>by cases h) (λh=>by have:=h.2.2.2.2.2.2.1;omega))
 by_cases c8:40<w.doors.length
 ·repeat refine W.g ?_
  exact q _ false Ext.x (Iff.intro (λh=>by cases h) (λh=>by have:=h.2.2.2.2.2.2.2.1;omega))
 by_cases c9:40<w.routes.length
 ·repeat refine W.g ?_
  exact q _ false Ext.x (Iff.intro (λh=>by cases h) (λh=>by have:=h.2.2.2.2.2.2.2.2.1;omega))
 by_cases c10:40<w.trips.length
 ·repeat refine W.g ?_
  exact q _ false Ext.x (Iff.intro (λh=>by cases h) (λh=>by have:=h.2.2.2.2.2.2.2.2.2.1;omega))
 by_cases c11:40<w.hazards.length
 ·repeat refine W.g ?_
  exact q _ false Ext.x (Iff.intro (λh=>by cases h) (λh=>by have:=h.2.2.2.2.2.2.2.2.2.2.1;omega))
 repeat refine W.g ?_
 refine mA 2 6 λT=> ?_;refine W.loop (σ:=Nat) (λk tm h'=>Ext H h'/\tm.look 2= .ptr (some (h.next,0))/\tm.look 6= .int .i64 (k:Int)/\k<=w.routes.length/\∀(j:Nat) r,j<k->w.routes[j]? =some r->r.stops.length<=60/\r.rides.length<=60/\r.stays.length<=60) (λk=>w.routes.length-k) ?_ (s:=0) ⟨Ext.refl _,rfl,rfl,Nat.zero_le _,λj r hj=>by omega⟩;rintro k tm h' ⟨X,w2,w6,hk,hl⟩;obtain⟨T,rfl⟩:=aDp w2 w6;clear w2 w6;by_cases d1:k<w.routes.length
 ·have hat:w.routes[k]? =some w.routes[k]:=List.getElem?_eq_getElem d1
  have no:¬(w.routes[k].stops.length<=60/\w.routes[k].rides.length<=60/\w.routes[k].stays.length<=60)->¬w.lightW4:=λh1 h2=>h1 (h2.2.2.2.2.2.2.2.2.2.2.2 _ (List.getElem_mem d1));repeat refine W.g ?_
  refine dI p9 d1 rfl rfl rfl rfl rfl rfl rfl λi_ o_ e L_ r_=> ?_;have hlen:=Rp.len r_;obtain⟨u1,u2,u3,rfl,v1,v2,v3⟩:=r_;by_cases e1:60<w.routes[k].stops.length
  ·repeat refine W.g ?_
   exact q _ false Ext.x (Iff.intro (λh=>by cases h) (λh=>absurd h (no (by omega))))
  repeat refine W.g ?_
  refine dI p9 d1 rfl rfl rfl rfl rfl rfl rfl λi2_ o2_ e' L2_ r2_=> ?_;have hlen2:=Rp.len r2_;obtain⟨u1',u2',u3',rfl,v1',v2',v3'⟩:=r2_;by_cases e2:60<w.routes[k].rides.length
  ·repeat refine W.g ?_
   exact q _ false Ext.x (Iff.intro (λh=>by cases h) (λh=>absurd h (no (by omega))))
  repeat refine W.g ?_
  refine dI p9 d1 rfl rfl rfl rfl rfl rfl rfl λi3_ o3_ e'' L3_ r3_=> ?_;have hlen3:=Rp.len r3_;obtain⟨u1'',u2'',u3'',rfl,v1'',v2'',v3''⟩:=r3_;by_cases e3:60<w.routes[k].stays.length
  ·repeat refine W.g ?_
   exact q _ false Ext.x (Iff.intro (λh=>by cases h) (λh=>absurd h (no (by omega))))
  repeat refine W.g ?_
  exact⟨k+1,aI d1,Ext.x,rfl,rfl,d1,λj r hj hr=>by
   by_cases e:j=k
   ·rw[e,hat]at hr;cases hr;exact⟨by omega,by omega,by omega⟩
   ·exact hl j r (by omega) hr⟩
 ·repeat refine W.g ?_
  have ek:k=w.routes.length:=by omega
  exact q _ true Ext.x (Iff.intro (λ_=>⟨by omega,by omega,by omega,by omega,by omega,by omega,by omega,by omega,by omega,by omega,by omega,λr hr=>by
   obtain⟨j,hj⟩:=List.getElem?_of_mem hr;exact hl j r (by rw[ek];exact(List.getElem?_eq_some_iff.1 hj).1) hj⟩) (λ_=>rfl))
end
end Go.Proofs.YtfheibkikpefkaaGreatDoor
