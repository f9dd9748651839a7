/- What is looked at in a world: ways that are open at times, hazards, routes. No condition but that memory beyond the next number is empty. -/
import Derived.Test.YtnjkaahbhebaeaaGreatDoorXU
import Derived.Test.YtnjkaahbhebaeaaGreatDoorYP
set_option linter.unusedVariables false
set_option linter.unusedSimpArgs false
set_option maxRecDepth 100000
namespace Go.Proofs.YtnjkaahbhebaeaaGreatDoor
open Go Go.CM Go.CM.Tt
noncomputable section
set_option maxHeartbeats 8000000
theorem timesChk_w {h:Heap} {tm:Tm} {Q:R->Prop} {cb:Nat} {w:WorldD} {tp:CV} (ck:Chk h cb w tp) (fr:Fresh h) (t:Times) (q:∀h',Ext h h'->Q (.val (.int .i64 (t.err w.hz)) h')):W E1 (.call (.fn 309 [] []) [.ptr (some (cb,0)),.agg t.enc]) tm h Q:=by
 obtain⟨wb,cs,Lc,Lw,r⟩:=ck.c;obtain⟨v1,v2,v3,v4,v5,v6,v7,v8,v9,v10,v11,rfl,s1,s2,s3,s4,s5,s6,s7,s8,s9,s10,s11⟩:=r;refine W.fn (s:=fnOf Tryz.f309) rfl rfl rfl rfl ?_;repeat (first|refine W.g ?_|refine W.m λh_ X_ n_ g_ L_=> ?_)
 have ds:=DX.start (X_.fr fr);have X0:=X_;repeat (first|refine W.gd ?_|refine W.e λr_ h_ ds_ s_=> ?_)
 have X1:=X0.trans ds_.x;refine W.dcallZ ds_ rfl rfl rfl rfl (wins_w t w.hz (X1.fr fr) λh1 v Y1 sv=>DZ.val Y1 λr1 h1' ds1 s1=> ?_);repeat refine W.gd ?_
 repeat refine W.g ?_
 exact q _ ((X1.trans Y1).trans s1.ext)
theorem hazChk_w {h:Heap} {tm:Tm} {Q:R->Prop} {cb:Nat} {w:WorldD} {tp:CV} (ck:Chk h cb w tp) (fr:Fresh h) (i:Nat) (hi:i<w.hazards.length) (q:∀h',Ext h h'->Q (.val (.int .i64 (HazW.err w.hz w.hazards[i])) h')):W E1 (.call (.fn 288 [.ptr (some (cb,0))] []) [.int .i64 (i:Int)]) tm h Q:=by
 have ck0:=ck;obtain⟨wb,cs,Lc,Lw,r⟩:=ck.c;obtain⟨v1,v2,v3,v4,v5,v6,v7,v8,v9,v10,v11,rfl,s1,s2,s3,s4,s5,s6,s7,s8,s9,s10,s11⟩:=r;refine W.fn (s:=fnOf Tryz.f288) rfl rfl rfl rfl ?_;unfold HazW.err at q;repeat refine W.g ?_
 refine W.iz λi_ o_ L_=> ?_;by_cases c1:w.hazards[i].on<0
 ·rw[if_pos c1]at q
  repeat (first|refine W.g ?_|refine W.m λh_ X_ n_ g_ L_=> ?_)
  exact q _ X_
 rw[if_neg c1]at q;repeat (first|refine W.g ?_|refine W.m λh_ X_ n_ g_ L_=> ?_)
 refine W.call rfl rfl rfl (timesChk_w (ck0.ext X_) (X_.fr fr) w.hazards[i].times λh2 X2=> ?_);repeat refine W.g ?_
 exact q _ (X_.trans X2)
theorem doorChk_w {h:Heap} {tm:Tm} {Q:R->Prop} {cb:Nat} {w:WorldD} {tp:CV} (ck:Chk h cb w tp) (fr:Fresh h) (i:Nat) (hi:i<w.doors.length) (q:∀h',Ext h h'->Q (.val (.int .i64 (DoorW.err w.hz w.doors[i])) h')):W E1 (.call (.fn 285 [.ptr (some (cb,0))] []) [.int .i64 (i:Int)]) tm h Q:=by
 have ck0:=ck;obtain⟨wb,cs,Lc,Lw,r⟩:=ck.c;obtain⟨v1,v2,v3,v4,v5,v6,v7,v8,v9,v10,v11,rfl,s1,s2,s3,s4,s5,s6,s7,s8,s9,s10,s11⟩:=r;refine W.fn (s:=fnOf Tryz.f285) rfl rfl rfl rfl ?_;unfold DoorW.err at q;repeat refine W.g ?_
 refine W.iz λi_ o_ L_=> ?_;repeat (first|refine W.g ?_|refine W.m λh_ X_ n_ g_ L_=> ?_)
 refine W.call rfl rfl rfl (way_w _ _ _ ?_);by_cases c1:wayErr w.doors[i].a w.doors[i].b w.doors[i].len=0
 ·rw[if_pos c1]at q
  repeat refine W.g ?_
  refine W.call rfl rfl rfl (timesChk_w (ck0.ext X_) (X_.fr fr) w.doors[i].times λh2 X2=> ?_);repeat refine W.g ?_
  exact q _ (X_.trans X2)
 ·rw[if_neg c1]at q
  repeat refine W.g ?_
  exact q _ X_
theorem indexI_w {h:Heap} {tm:Tm} {Q:R->Prop} {v:CV} {l:List Int} (s:Int) (sl:Sl h v l) (hm:l.length<=1099511627776)
  (q:∀r:Int,(0<=r↔s∈l)->Q (.val (.int .i64 r) h)):W E1 (.call (.fn 316 [] []) [v,.int .i64 s]) tm h Q:=by
 refine W.fn (s:=fnOf Tryz.f316) rfl rfl rfl rfl ?_;repeat refine W.g ?_
 refine W.loop (σ:=Nat) (λk tm h'=>h'=h/\tm.look 0=v/\tm.look 1= .int .i64 s/\tm.look 7= .int .i64 (l.length:Int)/\tm.look 8= .int .i64 (k:Int)/\k<=l.length/\∀j,j<k->∀a,l[j]? =some a->a≠s) (λk=>l.length-k) ?_ (s:=0)
  ⟨rfl,rfl,rfl,rfl,rfl,Nat.zero_le _,λj hj=>by omega⟩
 rintro k tm h' ⟨rfl,w0,w1,w7,w8,hk,hn⟩;obtain⟨T,rfl⟩:=Tm.t4 w0 w1 w7 w8;clear w0 w1 w7 w8;by_cases c1:k<l.length
 ·repeat refine W.g ?_
  refine W.iz λi_ o_ L_=> ?_;by_cases c2:s=l[k]
  ·repeat refine W.g ?_
   exact q _ (Iff.intro (λ_=>by rw[c2];exact List.getElem_mem c1) (λ_=>by omega))
  ·repeat refine W.g ?_
   refine⟨k+1,lessN c1,rfl,rfl,rfl,rfl,rfl,c1,λj hj a ha=> ?_⟩;by_cases e:j=k
   ·subst e
    rw[List.getElem?_eq_getElem c1]at ha;cases ha;exact λh=>c2 h.symm
   ·exact hn j (by omega) a ha
 ·repeat refine W.g ?_
  refine q _ (Iff.intro (λh=>by omega) (λh=> ?_));obtain⟨j,hj⟩:=List.getElem?_of_mem h;exact absurd rfl (hn j (by have:=(List.getElem?_eq_some_iff.1 hj).1;omega) s hj)
theorem containsI_w {h:Heap} {tm:Tm} {Q:R->Prop} {v:CV} {l:List Int} (s:Int) (sl:Sl h v l) (hm:l.length<=1099511627776)
  (q:∀b:Bool,(b=true↔s∈l)->Q (.val (.bool b) h)):W E1 (.call (.fn 310 [] []) [v,.int .i64 s]) tm h Q:=by
 refine W.fn (s:=fnOf Tryz.f310) rfl rfl rfl rfl ?_;repeat refine W.g ?_
 refine W.call rfl rfl rfl (indexI_w s sl hm λr hr=> ?_);by_cases c:0<=r
 ·repeat refine W.g ?_
  exact q true (Iff.intro (λ_=>hr.1 c) (λ_=>rfl))
 ·repeat refine W.g ?_
  exact q false (Iff.intro (λh=>by cases h) (λh=>absurd (hr.2 h) c))
end
end Go.Proofs.YtnjkaahbhebaeaaGreatDoor

namespace Go.Proofs.YtnjkaahbhebaeaaGreatDoor
open Go Go.CM Go.CM.Tt
noncomputable section
set_option maxHeartbeats 8000000
theorem routeChk_w {h:Heap} {tm:Tm} {Q:R->Prop} {cb:Nat} {w:WorldD} {tp:CV} (ck:Chk h cb w tp) (fr:Fresh h) (i:Nat) (hi:i<w.routes.length) (hl:w.routes[i].rides.length+1=w.routes[i].stops.length) (hs:w.routes[i].stops.length<=1000) (q:∀h',Ext h h'->Q (.val (.int .i64 (RouteW.err w.routes[i])) h')):W E1 (.call (.fn 286 [.ptr (some (cb,0))] []) [.int .i64 (i:Int)]) tm h Q:=by
 obtain⟨wb,cs,Lc,Lw,r⟩:=ck.c;obtain⟨v1,v2,v3,v4,v5,v6,v7,v8,v9,v10,v11,rfl,s1,s2,s3,s4,s5,s6,s7,s8,s9,s10,s11⟩:=r;refine W.fn (s:=fnOf Tryz.f286) rfl rfl rfl rfl ?_;obtain⟨r,hr⟩:∃r,r=w.routes[i]:=⟨_,rfl⟩;unfold RouteW.err at q;rw[<-hr]at hl hs q;repeat refine W.g ?_
 refine W.ixR s9 hi rfl rfl rfl rfl rfl rfl rfl λi_ o_ e L_ r_=> ?_;rw[<-hr]at r_;obtain⟨u1,u2,u3,rfl,t1,t2,t3⟩:=r_;repeat (first|refine W.g ?_|refine W.m λh_ X_ n_ g_ L_=> ?_)
 have X0:=X_;have L0:LocE h_ h.next 0 [u1,u2,u3]:=L_;obtain⟨H,hH⟩:∃H,H=h_:=⟨_,rfl⟩;rw[<-hH]at X0 L0;refine W.call rfl rfl rfl (containsI_w (-1) (t1.ext X_) (by omega) λb hb=> ?_);cases b
 rotate_left
 ·rw[if_pos (hb.1 rfl)]at q
  repeat refine W.g ?_
  exact q _ X_
 have hno:¬(-1:Int)∈r.stops:=λh=>by cases hb.2 h
 rw[if_neg hno]at q;refine W.k2 5 20 λT=> ?_;rw[<-hH];clear hH X_ n_ g_ L_;repeat refine W.g ?_
 refine W.loop (σ:=Nat) (λk tm h'=>Ext H h'/\tm.look 5= .ptr (some (h.next,0))/\tm.look 22=u2/\tm.look 23= .int .i64 (r.rides.length:Int)/\tm.look 24= .int .i64 (k:Int)/\k<=r.rides.length/\∀j,j<k->¬r.badAt j) (λk=>r.rides.length-k) ?_ (s:=0)
  ⟨Ext.refl _,rfl,rfl,rfl,rfl,Nat.zero_le _,λj hj=>by omega⟩
 rintro k tm h' ⟨X,w5,w22,w23,w24,hk,hn⟩;obtain⟨T,rfl⟩:=Tm.t4 w5 w22 w23 w24;clear w5 w22 w23 w24;by_cases c1:k<r.rides.length
 rotate_left
 ·repeat refine W.g ?_
  rw[if_neg (λ⟨j,hj,hb⟩=>hn j (by omega) hb)]at q;exact q _ (X0.trans X)
 have Xh:=X0.trans X;have g0:r.rides.getD k 0=r.rides[k]:=by simp[List.getD,List.getElem?_eq_getElem c1]
 have g1:r.stops.getD k 0=r.stops[k]:=by simp[List.getD,List.getElem?_eq_getElem (show k<r.stops.length by omega)]
 have g2:r.stops.getD (k+1) 0=r.stops[k+1]:=by simp[List.getD,List.getElem?_eq_getElem (show k+1<r.stops.length by omega)]
 repeat refine W.g ?_
 refine W.iz λi_ o_ L_=> ?_;repeat refine W.g ?_
 have ds:=DX.start (Xh.fr fr);by_cases c2:r.rides[k]<1
 ·repeat refine W.gd ?_
  repeat refine W.g ?_
  rw[if_pos ⟨k,c1,.inl (by rw[g0];exact c2)⟩]at q;exact q _ (Xh.trans ds.x)
 repeat (first|refine W.gd ?_|refine W.e λr_ h_ ds_ s_=> ?_)
 refine W.dixF (j:=k) t1 (by omega) rfl rfl rfl rfl rfl rfl rfl λi1 o1 L1=> ?_;repeat (first|refine W.gd ?_|refine W.e λr_ h_ ds_ s_=> ?_)
 refine W.dixF (j:=k+1) t1 (by omega) rfl rfl rfl rfl rfl rfl rfl λi2 o2 L2=> ?_;repeat (first|refine W.gd ?_|refine W.e λr_ h_ ds_ s_=> ?_)
 have X9:=ds_.x;by_cases c3:r.stops[k]=r.stops[k+1]
 ·repeat refine W.gd ?_
  repeat refine W.g ?_
  rw[if_pos ⟨k,c1,.inr (by rw[g1,g2];exact c3)⟩]at q;exact q _ (Xh.trans X9)
 ·repeat refine W.gd ?_
  repeat refine W.g ?_
  refine⟨k+1,lessN c1,X.trans X9,rfl,rfl,rfl,rfl,c1,λj hj hb=> ?_⟩;by_cases e:j=k
  ·subst e
   rcases hb with hb|hb
   ·rw[g0]at hb;exact c2 hb
   ·rw[g1,g2]at hb;exact c3 hb
  ·exact hn j (by omega) hb
end
end Go.Proofs.YtnjkaahbhebaeaaGreatDoor
