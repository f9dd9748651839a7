/- Places in a row, bounds of a sheet, copies. No condition but that memory beyond the next number is empty. -/
import Derived.Test.YtmgpjfnlciapkaaGreatDoorXU
import Derived.Test.YtmgpjfnlciapkaaGreatDoorYA
import Derived.Test.YtmgpjfnlciapkaaGreatDoorZYa
import Derived.Test.YtmgpjfnlciapkaaGreatDoorZB
import Derived.Test.YtmgpjfnlciapkaaGreatDoorXZ
set_option linter.unusedVariables false
set_option linter.unusedSimpArgs false
namespace Go.Proofs.YtmgpjfnlciapkaaGreatDoor
open Go Go.CM Go.CM.Tt
noncomputable section
set_option maxHeartbeats 8000000
theorem lightRoute_w {h:Heap} {tm:Tm} {Q:R->Prop} {cs:List CV} {r:RouteS} (rr:Rp.R h cs r) (q:∀h' (b:Bool),Ext h h'->(b=true↔r.light)->Q (.val (.bool b) h')):W E1 (.call (.fn 23 [] []) [.agg cs,.int .i64 60]) tm h Q:=by
 obtain⟨v1,v2,v3,rfl,s1,s2,s3⟩:=rr;refine W.fn (s:=fnOf Tryz.f23) rfl rfl rfl rfl ?_;by_cases c1:r.stops.length<=60
 ·by_cases c2:r.rides.length<=60
  ·by_cases c3:r.stays.length<=60
   ·repeat (first|refine W.g ?_|refine W.m λh_ X_ n_ g_ L_=> ?_)
    exact q _ true X_ (Iff.intro (λ_=>⟨c1,c2,c3⟩) (λ_=>rfl))
   ·repeat (first|refine W.g ?_|refine W.m λh_ X_ n_ g_ L_=> ?_)
    exact q _ false X_ (Iff.intro (λh=>by cases h) (λh=>absurd h.2.2 c3))
  ·repeat (first|refine W.g ?_|refine W.m λh_ X_ n_ g_ L_=> ?_)
   exact q _ false X_ (Iff.intro (λh=>by cases h) (λh=>absurd h.2.1 c2))
 ·repeat (first|refine W.g ?_|refine W.m λh_ X_ n_ g_ L_=> ?_)
  exact q _ false X_ (Iff.intro (λh=>by cases h) (λh=>absurd h.1 c1))
theorem lightSheet_w {h:Heap} {tm:Tm} {Q:R->Prop} {cs:List CV} {x:SheetD} (r:Rp.R h cs x) (q:∀h' (b:Bool),Ext h h'->(b=true↔x.light)->Q (.val (.bool b) h')):W E1 (.call (.fn 7 [] []) [.agg cs,.int .i64 60]) tm h Q:=by
 obtain⟨v1,v2,v3,v4,v5,v6,rfl,s1,s2,s3,s4,s5,s6⟩:=r;refine W.fn (s:=fnOf Tryz.f7) rfl rfl rfl rfl ?_;by_cases c1:60<x.stops.length
 ·repeat (first|refine W.g ?_|refine W.m λh_ X_ n_ g_ L_=> ?_)
  exact q _ false X_ (Iff.intro (λh=>by cases h) (λh=>by have:=h.1;omega))
 by_cases c2:60<x.paths.length
 ·repeat (first|refine W.g ?_|refine W.m λh_ X_ n_ g_ L_=> ?_)
  exact q _ false X_ (Iff.intro (λh=>by cases h) (λh=>by have:=h.2.1;omega))
 by_cases c3:60<x.doors.length
 ·repeat (first|refine W.g ?_|refine W.m λh_ X_ n_ g_ L_=> ?_)
  exact q _ false X_ (Iff.intro (λh=>by cases h) (λh=>by have:=h.2.2.1;omega))
 by_cases c4:60<x.routes.length
 ·repeat (first|refine W.g ?_|refine W.m λh_ X_ n_ g_ L_=> ?_)
  exact q _ false X_ (Iff.intro (λh=>by cases h) (λh=>by have:=h.2.2.2.1;omega))
 by_cases c5:60<x.trips.length
 ·repeat (first|refine W.g ?_|refine W.m λh_ X_ n_ g_ L_=> ?_)
  exact q _ false X_ (Iff.intro (λh=>by cases h) (λh=>by have:=h.2.2.2.2.1;omega))
 by_cases c6:60<x.hazards.length
 ·repeat (first|refine W.g ?_|refine W.m λh_ X_ n_ g_ L_=> ?_)
  exact q _ false X_ (Iff.intro (λh=>by cases h) (λh=>by have:=h.2.2.2.2.2.1;omega))
 repeat (first|refine W.g ?_|refine W.m λh_ X_ n_ g_ L_=> ?_)
 obtain⟨H,hH⟩:∃H,H=h_:=⟨_,rfl⟩;rw[<-hH]at X_ L_ ⊢;have s4:=s4.ext X_;refine W.k2 2 5 λT=> ?_;refine W.loop (σ:=Nat) (λk tm h'=>Ext H h'/\tm.look 2= .ptr (some (h.next,0))/\tm.look 5= .int .i64 (k:Int)/\k<=x.routes.length/\∀(j:Nat) r,j<k->x.routes[j]? =some r->r.light) (λk=>x.routes.length-k) ?_ (s:=0) ⟨Ext.refl _,rfl,rfl,Nat.zero_le _,λj r hj=>by omega⟩;rintro k tm h' ⟨X,w2,w5,hk,hl⟩;obtain⟨T,rfl⟩:=Tm.t2 w2 w5;clear w2 w5;by_cases d1:k<x.routes.length
 ·repeat refine W.g ?_
  refine W.ixR s4 d1 rfl rfl rfl rfl rfl rfl rfl λi_ o_ e L_ r_=> ?_;have hlen:=Rp.len r_;repeat refine W.g ?_
  refine W.call rfl rfl rfl (lightRoute_w (Rp.ext X r_) λh2 b X2 hb=> ?_);have hat:x.routes[k]? =some x.routes[k]:=List.getElem?_eq_getElem d1;cases b
  ·repeat refine W.g ?_
   exact q _ false Ext.x (Iff.intro (λh=>by cases h) (λh=>absurd (hb.2 (h.2.2.2.2.2.2 _ (List.getElem_mem d1))) (λh=>by cases h)))
  ·repeat refine W.g ?_
   exact⟨k+1,lessN d1,Ext.x,rfl,rfl,d1,λj r hj hr=>by
    by_cases e:j=k
    ·rw[e,hat]at hr;cases hr;exact hb.1 rfl
    ·exact hl j r (by omega) hr⟩
 ·repeat refine W.g ?_
  have ek:k=x.routes.length:=by omega
  exact q _ true Ext.x (Iff.intro (λ_=>⟨by omega,by omega,by omega,by omega,by omega,by omega,λr hr=>by
   obtain⟨j,hj⟩:=List.getElem?_of_mem hr;exact hl j r (by rw[ek];exact(List.getElem?_eq_some_iff.1 hj).1) hj⟩) (λ_=>rfl))
theorem own_str {h:Heap} {tm:Tm} {Q:R->Prop} {v:CV} {l:List Str} (sl:Sl h v l) (hm:l.length<=1073741824)
  (q:∀h' v',Ext h h'->OwnR h' h.next 1 v' (l.map Flat.enc)->Q (.val v' h')):W E1 (.call (.fn 29 [] []) [v]) tm h Q:=by
 refine W.fn (s:=fnOf Tryz.f29) rfl rfl rfl rfl ?_;have sg:=Sl.to_map Flat.iff sl;have hlen:(l.map (Flat.enc:Str->List CV)).length=l.length:=List.length_map _;repeat (first|refine W.g ?_|refine W.n λh_ X_ n_ g_ S_=> ?_)
 refine W.apR X_ (z:=1) (l:=[]) (l2:=l.map Flat.enc) (.inr ⟨h.next,0,false,rfl,Nat.le_refl _,by omega,g_,λe he=>(by cases he),.inl ⟨rfl,.inl rfl⟩⟩) (sg.ext X_) rfl rfl rfl rfl rfl rfl rfl rfl rfl rfl rfl rfl (by rw[hlen];show(0+l.length)*16<=_;omega) λv' h' X O=> ?_;repeat refine W.g ?_
 exact q _ _ X O
theorem own_int {h:Heap} {tm:Tm} {Q:R->Prop} {v:CV} {l:List Int} (sl:Sl h v l) (hm:l.length<=1073741824)
  (q:∀h' v',Ext h h'->OwnR h' h.next 1 v' (l.map Flat.enc)->Q (.val v' h')):W E1 (.call (.fn 40 [] []) [v]) tm h Q:=by
 refine W.fn (s:=fnOf Tryz.f40) rfl rfl rfl rfl ?_;have sg:=Sl.to_map Flat.iff sl;have hlen:(l.map (Flat.enc:Int->List CV)).length=l.length:=List.length_map _;repeat (first|refine W.g ?_|refine W.n λh_ X_ n_ g_ S_=> ?_)
 refine W.apR X_ (z:=1) (l:=[]) (l2:=l.map Flat.enc) (.inr ⟨h.next,0,false,rfl,Nat.le_refl _,by omega,g_,λe he=>(by cases he),.inl ⟨rfl,.inl rfl⟩⟩) (sg.ext X_) rfl rfl rfl rfl rfl rfl rfl rfl rfl rfl rfl rfl (by rw[hlen];show(0+l.length)*8<=_;omega) λv' h' X O=> ?_;repeat refine W.g ?_
 exact q _ _ X O
theorem own_path {h:Heap} {tm:Tm} {Q:R->Prop} {v:CV} {l:List PathS} (sl:Sl h v l) (hm:l.length<=1073741824)
  (q:∀h' v',Ext h h'->OwnR h' h.next 4 v' (l.map Flat.enc)->Q (.val v' h')):W E1 (.call (.fn 30 [] []) [v]) tm h Q:=by
 refine W.fn (s:=fnOf Tryz.f30) rfl rfl rfl rfl ?_;have sg:=Sl.to_map Flat.iff sl;have hlen:(l.map (Flat.enc:PathS->List CV)).length=l.length:=List.length_map _;repeat (first|refine W.g ?_|refine W.n λh_ X_ n_ g_ S_=> ?_)
 refine W.apR X_ (z:=4) (l:=[]) (l2:=l.map Flat.enc) (.inr ⟨h.next,0,false,rfl,Nat.le_refl _,by omega,g_,λe he=>(by cases he),.inl ⟨rfl,.inl rfl⟩⟩) (sg.ext X_) rfl rfl rfl rfl rfl rfl rfl rfl rfl rfl rfl rfl (by rw[hlen];show(0+l.length)*56<=_;omega) λv' h' X O=> ?_;repeat refine W.g ?_
 exact q _ _ X O
theorem own_door {h:Heap} {tm:Tm} {Q:R->Prop} {v:CV} {l:List DoorS} (sl:Sl h v l) (hm:l.length<=1073741824)
  (q:∀h' v',Ext h h'->OwnR h' h.next 7 v' (l.map Flat.enc)->Q (.val v' h')):W E1 (.call (.fn 31 [] []) [v]) tm h Q:=by
 refine W.fn (s:=fnOf Tryz.f31) rfl rfl rfl rfl ?_;have sg:=Sl.to_map Flat.iff sl;have hlen:(l.map (Flat.enc:DoorS->List CV)).length=l.length:=List.length_map _;repeat (first|refine W.g ?_|refine W.n λh_ X_ n_ g_ S_=> ?_)
 refine W.apR X_ (z:=7) (l:=[]) (l2:=l.map Flat.enc) (.inr ⟨h.next,0,false,rfl,Nat.le_refl _,by omega,g_,λe he=>(by cases he),.inl ⟨rfl,.inl rfl⟩⟩) (sg.ext X_) rfl rfl rfl rfl rfl rfl rfl rfl rfl rfl rfl rfl (by rw[hlen];show(0+l.length)*80<=_;omega) λv' h' X O=> ?_;repeat refine W.g ?_
 exact q _ _ X O
theorem own_trip {h:Heap} {tm:Tm} {Q:R->Prop} {v:CV} {l:List TripS} (sl:Sl h v l) (hm:l.length<=1073741824)
  (q:∀h' v',Ext h h'->OwnR h' h.next 5 v' (l.map Flat.enc)->Q (.val v' h')):W E1 (.call (.fn 32 [] []) [v]) tm h Q:=by
 refine W.fn (s:=fnOf Tryz.f32) rfl rfl rfl rfl ?_;have sg:=Sl.to_map Flat.iff sl;have hlen:(l.map (Flat.enc:TripS->List CV)).length=l.length:=List.length_map _;repeat (first|refine W.g ?_|refine W.n λh_ X_ n_ g_ S_=> ?_)
 refine W.apR X_ (z:=5) (l:=[]) (l2:=l.map Flat.enc) (.inr ⟨h.next,0,false,rfl,Nat.le_refl _,by omega,g_,λe he=>(by cases he),.inl ⟨rfl,.inl rfl⟩⟩) (sg.ext X_) rfl rfl rfl rfl rfl rfl rfl rfl rfl rfl rfl rfl (by rw[hlen];show(0+l.length)*56<=_;omega) λv' h' X O=> ?_;repeat refine W.g ?_
 exact q _ _ X O
theorem own_haz {h:Heap} {tm:Tm} {Q:R->Prop} {v:CV} {l:List HazS} (sl:Sl h v l) (hm:l.length<=1073741824)
  (q:∀h' v',Ext h h'->OwnR h' h.next 5 v' (l.map Flat.enc)->Q (.val v' h')):W E1 (.call (.fn 33 [] []) [v]) tm h Q:=by
 refine W.fn (s:=fnOf Tryz.f33) rfl rfl rfl rfl ?_;have sg:=Sl.to_map Flat.iff sl;have hlen:(l.map (Flat.enc:HazS->List CV)).length=l.length:=List.length_map _;repeat (first|refine W.g ?_|refine W.n λh_ X_ n_ g_ S_=> ?_)
 refine W.apR X_ (z:=5) (l:=[]) (l2:=l.map Flat.enc) (.inr ⟨h.next,0,false,rfl,Nat.le_refl _,by omega,g_,λe he=>(by cases he),.inl ⟨rfl,.inl rfl⟩⟩) (sg.ext X_) rfl rfl rfl rfl rfl rfl rfl rfl rfl rfl rfl rfl (by rw[hlen];show(0+l.length)*56<=_;omega) λv' h' X O=> ?_;repeat refine W.g ?_
 exact q _ _ X O
theorem ownRoute_w {h:Heap} {tm:Tm} {Q:R->Prop} {e:List CV} {d:RouteS} (fr:Fresh h) (r:Rp.R h e d) (sm:d.stops.length<=1000/\d.rides.length<=1000/\d.stays.length<=1000)
  (q:∀h' e2,Ext h h'->OwnRS h' h.next e2 d->(idsOf e2).Nodup->Q (.val (.agg e2) h')):W E1 (.call (.fn 34 [] []) [.agg e]) tm h Q:=by
 obtain⟨u1,u2,u3,rfl,t1,t2,t3⟩:=r;refine W.fn (s:=fnOf Tryz.f34) rfl rfl rfl rfl ?_;repeat (first|refine W.g ?_|refine W.m λh_ X_ n_ g_ L_=> ?_)
 rename_i ha Xa na ga La;have Xh:Ext h h_:=Xa.trans X_;have L1:=La.ext X_;clear L_;have ds:=DX.start (Xh.fr fr);repeat (first|refine W.gd ?_|refine W.e λr_ h_ ds_ s_=> ?_)
 have X1:=ds_.x;have nx1:=X1.next;refine W.dcallZ ds_ rfl rfl rfl rfl (own_str (t1.ext (Xh.trans X1)) (by omega) λh1 w1 Y1 O1=>DZ.val Y1 λr1 h1' ds1 s1=> ?_);have i1:=OwnR.ids O1;have O1:=(O1.low (lo':=ha.next+1) (by omega)).ext s1.ext;have k1:=s1.next;obtain⟨p1,m1,c1,y1,ee⟩:=O1.form;rw[ee];clear ds_ ds;repeat (first|refine W.gd ?_|refine W.e λr_ h_ ds_ s_=> ?_)
 rw[<-ee];have k2:=s_.next;have O1:=O1.ext s_.ext;have X2:=ds_.x;have nx2:=X2.next;refine W.dcallZ ds_ rfl rfl rfl rfl (own_int (t2.ext (Xh.trans X2)) (by omega) λh2 w2 Y2 O2=>DZ.val Y2 λr2 h2' ds2 s2=> ?_);have i2:=OwnR.ids O2;have j2:=Y2.next;have O1:=(O1.ext Y2).ext s2.ext;have O2:=(O2.low (lo':=ha.next+1) (by omega)).ext s2.ext;have k3:=s2.next;obtain⟨p2,m2,c2,y2,ee2⟩:=O2.form;rw[ee,ee2];clear ds_ ds1;repeat (first|refine W.gd ?_|refine W.e λr_ h_ ds_ s_=> ?_)
 rw[<-ee,<-ee2];have k4:=s_.next;have O1:=O1.ext s_.ext;have O2:=O2.ext s_.ext;have X3:=ds_.x;have nx3:=X3.next;refine W.dcallZ ds_ rfl rfl rfl rfl (own_int (t3.ext (Xh.trans X3)) (by omega) λh3 w3 Y3 O3=>DZ.val Y3 λr3 h3' ds3 s3=> ?_);have i3:=OwnR.ids O3;have O1:=(O1.ext Y3).ext s3.ext;have O2:=(O2.ext Y3).ext s3.ext;have O3:=(O3.low (lo':=ha.next+1) (by omega)).ext s3.ext;obtain⟨p3,m3,c3,y3,ee3⟩:=O3.form;rw[ee,ee2,ee3];clear ds_ ds2;repeat refine W.gd ?_
 rw[<-ee,<-ee2,<-ee3];have X4:=ds3.x;have nx4:=X4.next;refine W.dst (vs:=[.str d.name,w1,w2,w3]) (cs':=[.str d.name,w1,w2,w3]) ds3.hri rfl rfl rfl rfl rfl rfl rfl ((X4.old ha.next (by omega)).trans g_) rfl λr4 h4 hr4 s4=> ?_;have g4:h4.get ha.next=some (.cells [.str d.name,w1,w2,w3] false):=by rw[s4.get,put_same]
 have Xf:Ext h h4:=((Xh.trans X4).put (by omega) (by omega) _).trans s4.ext;have oth:∀{v:CV} {z:Nat} {l:List (List CV)},OwnR h3' (ha.next+1) z v l->OwnR h4 h.next z v l:=λO=>((O.other (h':=h4) (by rw[s4.next];exact Nat.le_refl _) λk hk _ _=>by rw[s4.get,Heap.get_put,if_neg (by omega)]).low (by omega));repeat refine W.gd ?_
 repeat refine W.g ?_
 refine BodyQ.cell1 rfl rfl g4 rfl rfl ?_;refine q _ _ Xf ⟨_,_,_,rfl,oth O1,oth O2,oth O3⟩ ?_;show(idOf w1++(idOf w2++(idOf w3++[]))).Nodup;rw[List.append_nil];refine nodup_behind (n:=h1.next) (OwnR.idNodup _) (λa ha=>(i1 a ha).2) (nodup_behind (n:=h2.next) (OwnR.idNodup _) (λa ha=>(i2 a ha).2) (OwnR.idNodup _) (λb hb=>by have:=(i3 b hb).1;omega)) (λb hb=> ?_);rcases List.mem_append.1 hb with hb|hb
 ·have:=(i2 b hb).1;omega
 ·have:=(i3 b hb).1;omega
theorem ownSheet_w {h:Heap} {tm:Tm} {Q:R->Prop} {cs:List CV} {x:SheetD} (r:Rp.R h cs x) (fr:Fresh h) (few:x.few) (sm:x.slim)
  (q:∀h' n0 n1 n2 n3 vr n5 n6,Ext h h'->OwnSh h' h.next n0 n1 n2 n3 vr n5 n6 x->Q (.val (.agg [n0,n1,n2,n3,vr,n5,n6]) h')):W E1 (.call (.fn 10 [] []) [.agg cs]) tm h Q:=by
 obtain⟨v1,v2,v3,v4,v5,v6,rfl,t1,t2,t3,t4,t5,t6⟩:=r;obtain⟨f1,f2,f3,f4,f5,f6⟩:=few;refine W.fn (s:=fnOf Tryz.f10) rfl rfl rfl rfl ?_;repeat (refine W.seq ?_)
 refine W.region ?_;refine W.box rfl rfl rfl λHa Xa na ga La=> ?_;refine W.al rfl rfl rfl λH XH nH gH LH=> ?_;clear LH;repeat refine W.g ?_
 have L1:=La.ext XH;have Xh:Ext h H:=Xa.trans XH;have ds:=DX.start (Xh.fr fr);repeat (first|refine W.gd ?_|refine W.e λr_ h_ ds_ s_=> ?_)
 have X1:=ds_.x;have nx1:=X1.next;refine W.dcallZ ds_ rfl rfl rfl rfl (own_str (t1.ext (Xh.trans X1)) (by omega) λh1 z1 Y1 O1=>DZ.val Y1 λr1 h1' ds1 s1=> ?_);have i1:=OwnR.ids O1;have j1:=Y1.next;have k1:=s1.next;have O1:=(O1.low (lo':=Ha.next+1) (by omega)).ext s1.ext;obtain⟨p1,m1,c1,y1,ee1⟩:=O1.form;rw[ee1];clear ds_ ds;repeat (first|refine W.gd ?_|refine W.e λr_ h_ ds_ s_=> ?_)
 have kk2:=s_.next;have X2:=ds_.x;have nx2:=X2.next;refine W.dcallZ ds_ rfl rfl rfl rfl (own_path (t2.ext (Xh.trans X2)) (by omega) λh2 z2 Y2 O2=>DZ.val Y2 λr2 h2' ds2 s2=> ?_);have i2:=OwnR.ids O2;have j2:=Y2.next;have k2:=s2.next;have O1:=((O1.ext s_.ext).ext Y2).ext s2.ext;have O2:=(O2.low (lo':=Ha.next+1) (by omega)).ext s2.ext;obtain⟨p2,m2,c2,y2,ee2⟩:=O2.form;rw[ee2];clear ds_ ds1;repeat (first|refine W.gd ?_|refine W.e λr_ h_ ds_ s_=> ?_)
 have kk3:=s_.next;have X3:=ds_.x;have nx3:=X3.next;refine W.dcallZ ds_ rfl rfl rfl rfl (own_door (t3.ext (Xh.trans X3)) (by omega) λh3 z3 Y3 O3=>DZ.val Y3 λr3 h3' ds3 s3=> ?_);have i3:=OwnR.ids O3;have j3:=Y3.next;have k3:=s3.next;have O1:=((O1.ext s_.ext).ext Y3).ext s3.ext;have O2:=((O2.ext s_.ext).ext Y3).ext s3.ext;have O3:=(O3.low (lo':=Ha.next+1) (by omega)).ext s3.ext;obtain⟨p3,m3,c3,y3,ee3⟩:=O3.form;rw[ee3];clear ds_ ds2;repeat (first|refine W.gd ?_|refine W.e λr_ h_ ds_ s_=> ?_)
 have kk4:=s_.next;have X4:=ds_.x;have nx4:=X4.next;refine W.dcallZ ds_ rfl rfl rfl rfl (own_trip (t5.ext (Xh.trans X4)) (by omega) λh4 z4 Y4 O4=>DZ.val Y4 λr4 h4' ds4 s4=> ?_);have i4:=OwnR.ids O4;have j4:=Y4.next;have k4:=s4.next;have O1:=((O1.ext s_.ext).ext Y4).ext s4.ext;have O2:=((O2.ext s_.ext).ext Y4).ext s4.ext;have O3:=((O3.ext s_.ext).ext Y4).ext s4.ext;have O4:=(O4.low (lo':=Ha.next+1) (by omega)).ext s4.ext;obtain⟨p4,m4,c4,y4,ee4⟩:=O4.form;rw[ee4];clear ds_ ds3;repeat (first|refine W.gd ?_|refine W.e λr_ h_ ds_ s_=> ?_)
 have kk5:=s_.next;have X5:=ds_.x;have nx5:=X5.next;refine W.dcallZ ds_ rfl rfl rfl rfl (own_haz (t6.ext (Xh.trans X5)) (by omega) λh5 z5 Y5 O5=>DZ.val Y5 λr5 h5' ds5 s5=> ?_);have i5:=OwnR.ids O5;have j5:=Y5.next;have k5:=s5.next;have O1:=((O1.ext s_.ext).ext Y5).ext s5.ext;have O2:=((O2.ext s_.ext).ext Y5).ext s5.ext;have O3:=((O3.ext s_.ext).ext Y5).ext s5.ext;have O4:=((O4.ext s_.ext).ext Y5).ext s5.ext;have O5:=(O5.low (lo':=Ha.next+1) (by omega)).ext s5.ext;obtain⟨p5,m5,c5,y5,ee5⟩:=O5.form;rw[ee5];clear ds_ ds4;repeat refine W.gd ?_
 rw[<-ee1,<-ee2,<-ee3,<-ee4,<-ee5];have X6:=ds5.x;have nx6:=X6.next;refine W.dalZ ds5 rfl rfl rfl λr6 G ds6 x6 n6 g6=> ?_;have X7:=ds6.x;have nx7:=X7.next;refine W.dst (vs:=[.int .i64 x.hz,z1,z2,z3,.slice none 0 0 0,z4,z5]) (cs':=[.int .i64 x.hz,z1,z2,z3,.slice none 0 0 0,z4,z5]) ds6.hri rfl rfl rfl rfl rfl rfl rfl g6 rfl λr7 K hr7 s7=> ?_;have gK:K.get h5'.next=some (.cells [.int .i64 x.hz,z1,z2,z3,.slice none 0 0 0,z4,z5] false):=by rw[s7.get,put_same]
 have XK:Ext h5' K:=(x6.put (Nat.le_refl _) (by omega) _).trans s7.ext;have nK:K.next=h5'.next+1:=by rw[s7.next];exact n6
 repeat refine W.gd ?_
 obtain⟨b3,hb3⟩:∃b3,b3=h5'.next:=⟨_,rfl⟩;rw[<-hb3]at gK nK ⊢;have gr:h5'.get Ha.next=some (.cells [.int .i64 0,.slice none 0 0 0,.slice none 0 0 0,.slice none 0 0 0,.slice none 0 0 0,.slice none 0 0 0,.slice none 0 0 0] false):=(X6.old Ha.next (by omega)).trans gH;have XhK:Ext h K:=(Xh.trans X6).trans XK;have t4:=t4.ext (Xh.trans X6);have L1:=L1.ext X6;have fr5:=(Xh.trans X6).fr fr;refine W.k3 1 2 3 λT=> ?_;repeat refine W.g ?_
 refine W.k4 1 2 3 4 λT=> ?_;clear ds6 ds5 g6 gH
 refine W.loop (σ:=Nat) (λk tm h'=>tm.look 1= .ptr (some (h.next,0))/\tm.look 2= .ptr (some (Ha.next,0))/\tm.look 3= .ptr (some (b3,0))/\tm.look 4= .int .i64 (k:Int)/\k<=x.routes.length/\Ext h5' h'/\b3<h'.next/\∃vr css,h'.get b3=some (.cells [.int .i64 x.hz,z1,z2,z3,vr,z4,z5] false)/\OwnRs h' h5'.next vr css (x.routes.take k)/\(idsIn css++idOf vr).Nodup/\∀a∈idsIn css++idOf vr,b3<a) (λk=>x.routes.length-k) ?_ (s:=0)
  ⟨rfl,rfl,rfl,rfl,Nat.zero_le _,XK,by omega,_,[],gK,⟨OwnR.nil,rfl,λj e d he=>by simp at he⟩,by simp[idsIn,idOf],λa ha=>by simp[idsIn,idOf]at ha⟩
 rintro k tm h' ⟨w1,w2,w3,w4,hk,X,lb,vr,css,gb,O,nd,hi⟩;obtain⟨T,rfl⟩:=Tm.t4 w1 w2 w3 w4;clear w1 w2 w3 w4;have L3:LocE h' b3 0 [.int .i64 x.hz,z1,z2,z3,vr,z4,z5]:=⟨_,_,gb,lb,rfl⟩;have vne:idOf vr≠[b3]:=λe=>by have:=hi b3 (by rw[e];simp);omega
 have vlt:=OwnR.ids O.1;by_cases c1:k<x.routes.length
 ·repeat refine W.g ?_
  have ds:=DX.start (X.fr fr5);repeat (first|refine W.gd ?_|refine W.e λr_ h_ ds_ s_=> ?_)
  refine W.dixR t4 c1 rfl rfl rfl rfl rfl rfl rfl λi_ o_ e L_ re_=> ?_;have hlen:=Rp.len re_;repeat refine W.e λr_ h_ ds_ s_=> ?_
  have Y1:=ds_.x;have ny1:=Y1.next;refine W.dcallZ ds_ rfl rfl rfl rfl (ownRoute_w ((X.trans Y1).fr fr5) (Rp.ext (X.trans Y1) re_) (sm _ (List.getElem_mem c1)) λg1 e2 Y O2 nd2=>DZ.val Y λq1 g1' ds1 s1=> ?_);have O2i:=O2.ids;have O2l:=O2.len;have O2s:=O2;obtain⟨u1,u2,u3,rfl,_,_,_⟩:=O2s;have ny2:=Y.next;have ny3:=s1.next;refine W.dnewZ ds1 rfl rfl rfl rfl λq2 g2 ds2 x2 n2 gg2=> ?_;have gg2:g2.get g1'.next=some (.cells [.str x.routes[k].name,u1,u2,u3] false):=gg2;have X2:=X.trans ds2.x;have e12:Ext g1 g2:=s1.ext.trans x2;have S_:SlG g2 4 (.slice (some (g1'.next,0)) 1 1 0) [[.str x.routes[k].name,u1,u2,u3]]:=SlG.one (by omega) gg2;have hcl:css.length=k:=by rw[O.2.1,List.length_take];omega
  refine W.apD (H:=h5') (z:=4) ds2.hri X2 (O.1.ext ds2.x) S_ rfl rfl rfl rfl rfl rfl rfl rfl rfl rfl rfl rfl rfl (by
   simp only[List.length_cons,List.length_nil];show _*88<=_;omega) λq3 v' g3 hr3 X3 n3 k3 O3 _ i3=> ?_
  have i3:=i3 (by simp);have gb3:g3.get b3=some (.cells [.int .i64 x.hz,z1,z2,z3,vr,z4,z5] false):=(k3 b3 (by omega) (.inr vne)).trans ((ds2.x.old b3 lb).trans gb);obtain⟨pv,nv,cv,xv,ev⟩:=O3.form;have hcells:v'.cells=some [v']:=by rw[ev];rfl
  rw[ev];repeat refine W.gd ?_
  rw[<-ev];refine W.dst (vs:=[v']) (cs':=[.int .i64 x.hz,z1,z2,z3,v',z4,z5]) hr3 rfl rfl rfl rfl hcells rfl rfl gb3 rfl λq4 g4 hr4 s4=> ?_;have gb4:g4.get b3=some (.cells [.int .i64 x.hz,z1,z2,z3,v',z4,z5] false):=by rw[s4.get,put_same]
  have nn4:g4.next=g3.next:=s4.next;have kk4:∀k,k≠b3->g4.get k=g3.get k:=λk hk=>by rw[s4.get,Heap.get_put,if_neg (Ne.symm hk)]
  have X4:Ext h5' g4:=(X3.put (by omega) (by omega) _).trans s4.ext;repeat refine W.gd ?_
  repeat refine W.g ?_
  have ny4:=ds2.x.next;have nnd:=List.nodup_append.1 nd
  have cap:∀(v:CV) (a:Nat),a∈idOf v->idOf v=[a]:=λv a ha=>by
   rcases idOf_one v with e|⟨j,e⟩
   ·rw[e]at ha;cases ha
   ·rw[e]at ha ⊢;rw[List.mem_singleton.1 ha]
  have hout:∀a,a<g2.next->a≠b3->a∉idOf vr->g4.get a=g2.get a:=λa h1 h2 h3=>(kk4 a h2).trans (k3 a h1 (.inr λe=>h3 (by rw[e];simp)));refine⟨k+1,lessN c1,rfl,rfl,rfl,rfl,c1,X4,by omega,v',css++[[.str x.routes[k].name,u1,u2,u3]],gb4,⟨O3.other (Nat.le_of_eq nn4.symm) λa _ _ ha=>kk4 a (λe=> ?_),by rw[List.length_append,hcl,List.length_take];simp;omega,λj e d he hd=> ?_⟩,?_,?_⟩
  ·rw[i3]at ha
   have:g2.next=a:=by simpa using ha
   omega
  ·by_cases hj:j<k
   ·rw[List.getElem?_append_left (by omega)]at he
    have hd2:(x.routes.take k)[j]? =some d:=by
     rw[List.getElem?_take,if_pos hj];rw[List.getElem?_take,if_pos (by omega)]at hd;exact hd
    have o:=(O.2.2 j e d he hd2).ext ds2.x;refine o.other (by omega) λa ha=>hout a ?_ ?_ ?_
    ·have:=(o.ids a ha).2;omega
    ·have:=hi a (List.mem_append_left _ (List.mem_flatMap.2 ⟨e,List.mem_of_getElem? he,ha⟩));omega
    ·exact λhv=>nnd.2.2 a (List.mem_flatMap.2 ⟨e,List.mem_of_getElem? he,ha⟩) a hv rfl
   ·have hj2:j=k:=by
      have:=(List.getElem?_eq_some_iff.1 he).1;simp only[List.length_append,List.length_cons,List.length_nil]at this;omega
    subst hj2;rw[List.getElem?_append_right (by omega),hcl,Nat.sub_self]at he;have he:[.str x.routes[j].name,u1,u2,u3]=e:=by simpa using he
    subst he;rw[List.getElem?_take,if_pos (by omega),List.getElem?_eq_getElem c1]at hd;have hd:=Option.some.inj hd;subst hd;have o:=O2.ext e12;refine(o.other (by omega) λa ha=>hout a ?_ ?_ ?_).low (by have:=X.next;omega)
    ·have:=(o.ids a ha).2;omega
    ·have:=(O2i a ha).1;omega
    ·intro hv
     have:=(vlt a hv).2;have:=(O2i a ha).1;omega
  ·rw[i3]
   show(List.flatMap idsOf (css++[_])++_).Nodup;rw[List.flatMap_append,List.append_assoc];refine nodup_behind (n:=h'.next) nnd.1 (λa ha=>(O.idsI a ha).2) (nodup_behind (n:=g2.next) (by simpa using nd2) (λa ha=> ?_) (by simp) (λb hb=>by rw[List.mem_singleton.1 hb];exact Nat.le_refl _)) (λb hb=> ?_)
   ·have:=(O2i a (by simpa using ha)).2;omega
   ·rcases List.mem_append.1 hb with hb|hb
    ·have:=(O2i b (by simpa using hb)).1;omega
    ·rw[List.mem_singleton.1 hb];omega
  ·intro a ha
   rw[i3]at ha;have ha:a∈List.flatMap idsOf (css++[_])++_:=ha;rw[List.flatMap_append]at ha;simp only[List.mem_append]at ha;rcases ha with(ha|ha)|ha
   ·exact hi a (List.mem_append_left _ ha)
   ·have:=(O2i a (by simpa using ha)).1;omega
   ·rw[List.mem_singleton.1 ha];omega
 ·have ek:k=x.routes.length:=by omega
  repeat refine W.g ?_
  refine W.stn (vs:=[.int .i64 x.hz,z1,z2,z3,vr,z4,z5]) (cs':=[.int .i64 x.hz,z1,z2,z3,vr,z4,z5]) rfl rfl rfl rfl rfl rfl ((X.old Ha.next (by omega)).trans gr) rfl λK2 nx gk kx=> ?_;repeat refine W.g ?_
  refine BodyQ.cell1 rfl rfl gk rfl rfl ?_;have nX:=X.next;have nX1:=nx1;have oth:∀{v:CV} {z:Nat} {l:List (List CV)},OwnR h5' (Ha.next+1) z v l->OwnR K2 h.next z v l:=λO=>((O.ext X).other (h':=K2) (by omega) λk hk _ _=>kx k (by omega)).low (by omega);rw[ek,List.take_length]at O;refine q K2 _ _ _ _ _ _ _ (Ext.store ((Xh.trans X6).trans X) nx kx (by omega) (by omega)) ⟨rfl,oth O1,oth O2,oth O3,oth O4,oth O5,css,(O.other (by omega) λa ha=>kx a ?_).low (by omega),?_⟩
  ·rcases List.mem_append.1 ha with ha|ha
   ·have:=(vlt a ha).1;omega
   ·have:=(O.idsI a ha).1;omega
  ·refine nodup_behind (n:=h5'.next) (nodup_behind (n:=h4.next) (nodup_behind (n:=h3.next) (nodup_behind (n:=h2.next) (nodup_behind (n:=h1.next) (OwnR.idNodup _) (λa ha=>(i1 a ha).2) (OwnR.idNodup _) λb hb=>by have:=(i2 b hb).1;omega) (λa ha=> ?_) (OwnR.idNodup _) λb hb=>by have:=(i3 b hb).1;omega) (λa ha=> ?_) (OwnR.idNodup _) λb hb=>by have:=(i4 b hb).1;omega) (λa ha=> ?_) (OwnR.idNodup _) λb hb=>by have:=(i5 b hb).1;omega) (λa ha=> ?_) nd λb hb=> ?_
   ·rcases List.mem_append.1 ha with ha|ha
    ·have:=(i1 a ha).2;omega
    ·have:=(i2 a ha).2;omega
   ·rcases List.mem_append.1 ha with ha|ha
    ·rcases List.mem_append.1 ha with ha|ha
     ·have:=(i1 a ha).2;omega
     ·have:=(i2 a ha).2;omega
    ·have:=(i3 a ha).2;omega
   ·simp only[List.mem_append,or_assoc]at ha
    rcases ha with ha|ha|ha|ha
    ·have:=(i1 a ha).2;omega
    ·have:=(i2 a ha).2;omega
    ·have:=(i3 a ha).2;omega
    ·have:=(i4 a ha).2;omega
   ·simp only[List.mem_append,or_assoc]at ha
    rcases ha with ha|ha|ha|ha|ha
    ·have:=(i1 a ha).2;omega
    ·have:=(i2 a ha).2;omega
    ·have:=(i3 a ha).2;omega
    ·have:=(i4 a ha).2;omega
    ·have:=(i5 a ha).2;omega
   ·have:=hi b hb;omega
end
end Go.Proofs.YtmgpjfnlciapkaaGreatDoor
