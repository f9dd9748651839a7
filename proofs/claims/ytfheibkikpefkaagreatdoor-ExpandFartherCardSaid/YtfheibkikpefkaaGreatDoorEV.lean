/- A world in which a trip is two: in plain words. No condition, no program. -/
import Derived.Test.YtfheibkikpefkaaGreatDoorRLc
import Derived.Test.YtfheibkikpefkaaGreatDoorXU
import Derived.Test.YtfheibkikpefkaaGreatDoorXP1
set_option linter.unusedVariables false
set_option linter.unusedSimpArgs false
noncomputable section
namespace Go.CM.Tt
open Go.CM
def zz9:Str:=[122,122,57]
def WorldD.halve (w:WorldD) (j:Nat) (t:TripW):WorldD:=
 {w with trips:=w.trips.set j {t with evr:=2*t.evr}++[⟨t.route,t.frm+t.evr,2*t.evr,t.untl⟩],names:={w.names with trips:=w.names.trips++[zz9]}}
theorem halve_at {w:WorldD} {j:Nat} {t:TripW} (hj:j<w.trips.length):(w.halve j t).tripAt j={t with evr:=2*t.evr}:=by
 unfold WorldD.tripAt WorldD.halve;rw[List.getD_eq_getElem?_getD,List.getElem?_append_left (by rw[List.length_set];exact hj),List.getElem?_set_self (by exact hj)];rfl
theorem halve_last {w:WorldD} {j:Nat} {t:TripW}:(w.halve j t).tripAt w.trips.length=⟨t.route,t.frm+t.evr,2*t.evr,t.untl⟩:=by
 unfold WorldD.tripAt WorldD.halve;rw[List.getD_eq_getElem?_getD,List.getElem?_append_right (by rw[List.length_set];exact Nat.le_refl _),List.length_set,Nat.sub_self];rfl
theorem halve_len {w:WorldD} {j:Nat} {t:TripW}:(w.halve j t).trips.length=w.trips.length+1:=by
 unfold WorldD.halve;rw[List.length_append,List.length_set];rfl
theorem halve_cnt {w:WorldD} {j:Nat} {t:TripW} (hj:j<w.trips.length) (ht:w.tripAt j=t) (he:0<t.evr):(w.halve j t).cntAt j=(w.cntAt j+1)/2:=by
 unfold WorldD.cntAt;rw[halve_at hj,show(w.halve j t).routeOf ⟨t.route,t.frm,2*t.evr,t.untl⟩=w.routeOf t from rfl,ht];exact countT_half he
theorem halve_cnt2 {w:WorldD} {j:Nat} {t:TripW} (ht:w.tripAt j=t) (he:0<t.evr):(w.halve j t).cntAt w.trips.length=w.cntAt j/2:=by
 unfold WorldD.cntAt;rw[halve_last,show(w.halve j t).routeOf ⟨t.route,t.frm+t.evr,2*t.evr,t.untl⟩=w.routeOf t from rfl,ht];exact countT_half2 he
theorem halve_run {w:WorldD} {j:Nat} {t:TripW} (hj:j<w.trips.length) (ht:w.tripAt j=t) (m:Int):
  ((w.halve j t).runAt j m).arr=(w.runAt j (2*m)).arr/\((w.halve j t).runAt j m).dep=(w.runAt j (2*m)).dep:=by
 have e:t.frm+m*(2*t.evr)=t.frm+2*m*t.evr:=by rw[Int.mul_comm 2 m,Int.mul_assoc]
 unfold WorldD.runAt;simp only[halve_at hj,ht];rw[show(w.halve j t).routeOf ⟨t.route,t.frm,2*t.evr,t.untl⟩=w.routeOf t from rfl,e];exact⟨rfl,rfl⟩
theorem halve_run2 {w:WorldD} {j:Nat} {t:TripW} (ht:w.tripAt j=t) (m:Int):
  ((w.halve j t).runAt w.trips.length m).arr=(w.runAt j (2*m+1)).arr/\((w.halve j t).runAt w.trips.length m).dep=(w.runAt j (2*m+1)).dep:=by
 have e:t.frm+t.evr+m*(2*t.evr)=t.frm+(2*m+1)*t.evr:=by
  rw[Int.add_mul,Int.one_mul,Int.mul_comm 2 m,Int.mul_assoc];omega
 unfold WorldD.runAt;simp only[halve_last,ht];rw[show(w.halve j t).routeOf ⟨t.route,t.frm+t.evr,2*t.evr,t.untl⟩=w.routeOf t from rfl,e];exact⟨rfl,rfl⟩
end Go.CM.Tt

namespace Go.Proofs.YtfheibkikpefkaaGreatDoor
open Go Go.CM Go.CM.Tt
noncomputable section
set_option maxHeartbeats 8000000
theorem own_nt {h:Heap} {tm:Tm} {Q:R->Prop} {v:CV} {l:List Int} (sl:Sl h v l) (hm:l.length<=1073741824)
  (q:∀h' v',Ext h h'->OwnR h' h.next 1 v' (l.map Flat.enc)->Q (.val v' h')):W E1 (.call (.fn 59 [] []) [v]) tm h Q:=by
 refine W.fn (s:=fnOf Tryz.f59) rfl rfl rfl rfl ?_;have sg:=Sl.to_map Flat.iff sl;have hlen:(l.map (Flat.enc:Int->List CV)).length=l.length:=List.length_map _;repeat (first|refine W.g ?_|refine W.n λh_ X_ n_ g_ S_=> ?_)
 refine W.apR X_ (z:=1) (l:=[]) (l2:=l.map Flat.enc) (.inr ⟨h.next,0,false,rfl,Nat.le_refl _,by omega,g_,λe he=>(by cases he),.inl ⟨rfl,.inl rfl⟩⟩) (sg.ext X_) rfl rfl rfl rfl rfl rfl rfl rfl rfl rfl rfl rfl (by rw[hlen];show(0+l.length)*8<=_;omega) λv' h' X O=> ?_;repeat refine W.g ?_
 exact q _ _ X O
theorem own_pathW {h:Heap} {tm:Tm} {Q:R->Prop} {v:CV} {l:List PathW} (sl:Sl h v l) (hm:l.length<=1073741824)
  (q:∀h' v',Ext h h'->OwnR h' h.next 3 v' (l.map Flat.enc)->Q (.val v' h')):W E1 (.call (.fn 54 [] []) [v]) tm h Q:=by
 refine W.fn (s:=fnOf Tryz.f54) rfl rfl rfl rfl ?_;have sg:=Sl.to_map Flat.iff sl;have hlen:(l.map (Flat.enc:PathW->List CV)).length=l.length:=List.length_map _;repeat (first|refine W.g ?_|refine W.n λh_ X_ n_ g_ S_=> ?_)
 refine W.apR X_ (z:=3) (l:=[]) (l2:=l.map Flat.enc) (.inr ⟨h.next,0,false,rfl,Nat.le_refl _,by omega,g_,λe he=>(by cases he),.inl ⟨rfl,.inl rfl⟩⟩) (sg.ext X_) rfl rfl rfl rfl rfl rfl rfl rfl rfl rfl rfl rfl (by rw[hlen];show(0+l.length)*24<=_;omega) λv' h' X O=> ?_;repeat refine W.g ?_
 exact q _ _ X O
theorem own_doorW {h:Heap} {tm:Tm} {Q:R->Prop} {v:CV} {l:List DoorW} (sl:Sl h v l) (hm:l.length<=1073741824)
  (q:∀h' v',Ext h h'->OwnR h' h.next 6 v' (l.map Flat.enc)->Q (.val v' h')):W E1 (.call (.fn 55 [] []) [v]) tm h Q:=by
 refine W.fn (s:=fnOf Tryz.f55) rfl rfl rfl rfl ?_;have sg:=Sl.to_map Flat.iff sl;have hlen:(l.map (Flat.enc:DoorW->List CV)).length=l.length:=List.length_map _;repeat (first|refine W.g ?_|refine W.n λh_ X_ n_ g_ S_=> ?_)
 refine W.apR X_ (z:=6) (l:=[]) (l2:=l.map Flat.enc) (.inr ⟨h.next,0,false,rfl,Nat.le_refl _,by omega,g_,λe he=>(by cases he),.inl ⟨rfl,.inl rfl⟩⟩) (sg.ext X_) rfl rfl rfl rfl rfl rfl rfl rfl rfl rfl rfl rfl (by rw[hlen];show(0+l.length)*48<=_;omega) λv' h' X O=> ?_;repeat refine W.g ?_
 exact q _ _ X O
theorem own_tripW {h:Heap} {tm:Tm} {Q:R->Prop} {v:CV} {l:List TripW} (sl:Sl h v l) (hm:l.length<=1073741824)
  (q:∀h' v',Ext h h'->OwnR h' h.next 4 v' (l.map Flat.enc)->Q (.val v' h')):W E1 (.call (.fn 56 [] []) [v]) tm h Q:=by
 refine W.fn (s:=fnOf Tryz.f56) rfl rfl rfl rfl ?_;have sg:=Sl.to_map Flat.iff sl;have hlen:(l.map (Flat.enc:TripW->List CV)).length=l.length:=List.length_map _;repeat (first|refine W.g ?_|refine W.n λh_ X_ n_ g_ S_=> ?_)
 refine W.apR X_ (z:=4) (l:=[]) (l2:=l.map Flat.enc) (.inr ⟨h.next,0,false,rfl,Nat.le_refl _,by omega,g_,λe he=>(by cases he),.inl ⟨rfl,.inl rfl⟩⟩) (sg.ext X_) rfl rfl rfl rfl rfl rfl rfl rfl rfl rfl rfl rfl (by rw[hlen];show(0+l.length)*32<=_;omega) λv' h' X O=> ?_;repeat refine W.g ?_
 exact q _ _ X O
theorem own_hazW {h:Heap} {tm:Tm} {Q:R->Prop} {v:CV} {l:List HazW} (sl:Sl h v l) (hm:l.length<=1073741824)
  (q:∀h' v',Ext h h'->OwnR h' h.next 5 v' (l.map Flat.enc)->Q (.val v' h')):W E1 (.call (.fn 57 [] []) [v]) tm h Q:=by
 refine W.fn (s:=fnOf Tryz.f57) rfl rfl rfl rfl ?_;have sg:=Sl.to_map Flat.iff sl;have hlen:(l.map (Flat.enc:HazW->List CV)).length=l.length:=List.length_map _;repeat (first|refine W.g ?_|refine W.n λh_ X_ n_ g_ S_=> ?_)
 refine W.apR X_ (z:=5) (l:=[]) (l2:=l.map Flat.enc) (.inr ⟨h.next,0,false,rfl,Nat.le_refl _,by omega,g_,λe he=>(by cases he),.inl ⟨rfl,.inl rfl⟩⟩) (sg.ext X_) rfl rfl rfl rfl rfl rfl rfl rfl rfl rfl rfl rfl (by rw[hlen];show(0+l.length)*40<=_;omega) λv' h' X O=> ?_;repeat refine W.g ?_
 exact q _ _ X O
end
end Go.Proofs.YtfheibkikpefkaaGreatDoor

namespace Go.Proofs.YtfheibkikpefkaaGreatDoor
open Go Go.CM Go.CM.Tt
noncomputable section
set_option maxHeartbeats 16000000
theorem list_same {α:Type} {l m:List α} (hn:l.length=m.length) (hl:∀j:Nat,j<l.length->l[j]? =m[j]?):l=m:=by
 apply List.ext_getElem? ;intro j;by_cases hj:j<l.length
 ·exact hl j hj
 ·rw[List.getElem?_eq_none (by omega),List.getElem?_eq_none (by omega)]
theorem list_differ {α:Type} {l m:List α} {k:Nat} (h1:k<l.length) (h2:k<m.length) (hd:¬l[k]=m[k]):¬l=m:=λe=>hd (by subst e;rfl)
theorem same2_int {h:Heap} {tm:Tm} {Q:R->Prop} {v w:CV} {l m:List Int} (fr:Fresh h) (s1:Sl h v l) (s2:Sl h w m) (hm:l.length<=1099511627776) (hm2:m.length<=1099511627776) (q:∀h' (b:Bool),Ext h h'->(b=true↔l=m)->Q (.val (.bool b) h')):W E1 (.call (.fn 16 [] []) [v,w]) tm h Q:=by
 refine W.fn (s:=fnOf Tryz.f16) rfl rfl rfl rfl ?_;by_cases c0:l.length=m.length
 case neg=>
  have c0':¬(l.length:Int)=(m.length:Int):=by omega
  repeat refine W.g ?_
  exact q _ false (Ext.refl _) (Iff.intro (λh=>by cases h) (λh=>absurd (by rw[h]) c0))
 have c0':(l.length:Int)=(m.length:Int):=by omega
 repeat refine W.g ?_
 refine W.loop (σ:=Nat) (λk tm h'=>Ext h h'/\tm.look 0=v/\tm.look 1=w/\tm.look 5= .int .i64 (k:Int)/\k<=l.length/\∀j:Nat,j<k->l[j]? =m[j]?) (λk=>l.length-k) ?_ (s:=0) ⟨Ext.refl _,rfl,rfl,rfl,Nat.zero_le _,λj hj=>by omega⟩;rintro k tm h' ⟨X,w0,w1,w5,hk,hl⟩;obtain⟨T,rfl⟩:=Tm.t3 w0 w1 w5;clear w0 w1 w5;by_cases c1:k<l.length
 ·have c2:k<m.length:=by omega
  repeat refine W.g ?_
  have ds:=DX.start (X.fr fr);try refine W.dv ?_
  refine W.dixF s1 c1 rfl rfl rfl rfl rfl rfl rfl λi1 o1 L1=> ?_;repeat (first|refine W.gd ?_|refine W.e λr_ h_ ds_ s_=> ?_)
  clear ds;have X1:=ds_.x;refine W.dixF s2 c2 rfl rfl rfl rfl rfl rfl rfl λi2 o2 L2=> ?_;repeat (first|refine W.gd ?_|refine W.e λr_ h_ ds_ s_=> ?_)
  have X2:=ds_.x;by_cases d1:l[k]=m[k]
  ·have d1:l[k]=m[k]:=d1
   repeat refine W.g ?_
   exact⟨k+1,lessN c1,X.trans X2,rfl,rfl,rfl,c1,λj hj=>by
    by_cases e:j=k
    ·rw[e,List.getElem?_eq_getElem c1,List.getElem?_eq_getElem c2,d1]
    ·exact hl j (by omega)⟩
  ·have d1:¬l[k]=m[k]:=d1
   repeat refine W.g ?_
   exact q _ false (X.trans X2) (Iff.intro (λh=>by cases h) (λh=>absurd h (list_differ c1 c2 d1)))
 ·repeat refine W.g ?_
  exact q _ true X (Iff.intro (λ_=>list_same c0 λj hj=>hl j (by omega)) (λ_=>rfl))
end
end Go.Proofs.YtfheibkikpefkaaGreatDoor
