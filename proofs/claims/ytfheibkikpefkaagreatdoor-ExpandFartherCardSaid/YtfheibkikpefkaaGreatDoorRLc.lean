/- The document's answer: what is wrong with a world, the sheet that it tells, where a name is found. No condition but that memory beyond the next number is empty. -/
import Derived.Test.YtfheibkikpefkaaGreatDoorXU
import Derived.Test.YtfheibkikpefkaaGreatDoorRG
import Derived.Test.YtfheibkikpefkaaGreatDoorRI
import Derived.Test.YtfheibkikpefkaaGreatDoorRJ
import Derived.Test.YtfheibkikpefkaaGreatDoorYM
import Derived.Test.YtfheibkikpefkaaGreatDoorYZ
import Derived.Test.YtfheibkikpefkaaGreatDoorYE
import Derived.Test.YtfheibkikpefkaaGreatDoorXQ4
import Derived.Test.YtfheibkikpefkaaGreatDoorXP1
import Derived.Test.YtfheibkikpefkaaGreatDoorZW
set_option linter.unusedVariables false
set_option linter.unusedSimpArgs false
namespace Go.Proofs.YtfheibkikpefkaaGreatDoor
open Go Go.CM Go.CM.Tt
noncomputable section
set_option maxHeartbeats 16000000
theorem rcheck_w {h:Heap} {tm:Tm} {Q:R->Prop} {cs:List CV} {w:WorldD} (r:Rp.R h cs w) (fr:Fresh h) (sm:w.small) (sl:w.whole->w.told.slim) (q:∀h',Ext h h'->Q (.val (.agg w.check.enc) h')):W E1 (.call (.fn 11 [] []) [.agg cs]) tm h Q:=by
 have r0:=r;obtain⟨v1,v2,v3,v4,v5,v6,v7,v8,v9,v10,v11,rfl,s1,s2,s3,s4,s5,s6,s7,s8,s9,s10,s11⟩:=r;refine W.fn (s:=fnOf Tryz.f11) rfl rfl rfl rfl ?_;repeat (refine W.seq ?_)
 refine W.region ?_;refine W.box rfl rfl rfl λH1 XH1 nH1 gH1 LH1=> ?_;repeat (first|refine W.g ?_|refine W.m λh_ X_ n_ g_ L_=> ?_|refine W.n λh_ X_ n_ g_ S_=> ?_)
 obtain⟨H,hH⟩:∃H,H=h_:=⟨_,rfl⟩;rw[<-hH]at X_ n_ g_ L_ ⊢;have XA:=X_;have nA:=n_;have gR:H.get H1.next=some (.cells [.int .i64 0,.int .i64 0,.int .i64 0] false):=g_;clear X_ n_ g_ L_ hH;have XH:Ext h H:=XH1.trans XA;have LH:=LH1.ext XA;refine W.call rfl rfl rfl (rwhole_w (Rp.ext XH r0) (XH.fr fr) sm λH2 b X2 hb=> ?_);have nX2:=X2.next;have L2:=LH.ext X2;clear LH LH1;cases b
 ·have e:w.check=⟨2,0,0⟩:=by unfold WorldD.check;rw[if_neg (λh=>by cases hb.2 h)]
  rw[e]at q;repeat (first|refine W.g ?_|refine W.m λh_ X_ n_ g_ L_=> ?_|refine W.n λh_ X_ n_ g_ S_=> ?_)
  refine W.call rfl rfl rfl (rwrong_w _ _ _ λH3 X3=> ?_);have nX3:=X3.next;repeat (first|refine W.g ?_|refine W.m λh_ X_ n_ g_ L_=> ?_|refine W.n λh_ X_ n_ g_ S_=> ?_)
  refine W.stn (vs:=[.int .i64 2,.int .i64 0,.int .i64 0]) (cs':=[.int .i64 2,.int .i64 0,.int .i64 0]) rfl rfl rfl rfl rfl rfl (((X2.trans X3).old _ (by omega)).trans gR) rfl λM nM gM kM=> ?_;repeat (first|refine W.g ?_|refine W.m λh_ X_ n_ g_ L_=> ?_|refine W.n λh_ X_ n_ g_ S_=> ?_)
  refine BodyQ.cell1 rfl rfl gM rfl rfl ?_;exact q M (Ext.store (XH.trans (X2.trans X3)) nM kM (by omega) (by omega))
 have hw:=hb.1 rfl;have e:w.check=w.told.make.2:=by unfold WorldD.check;rw[if_pos hw]
 rw[e]at q;have Y2:=XH.trans X2;repeat (first|refine W.g ?_|refine W.m λh_ X_ n_ g_ L_=> ?_|refine W.n λh_ X_ n_ g_ S_=> ?_)
 refine W.call rfl rfl rfl (rtold_w (Rp.ext Y2 r0) (Y2.fr fr) hw sm λH3 e3 X3 r3=> ?_);have nX3:=X3.next;repeat (first|refine W.g ?_|refine W.m λh_ X_ n_ g_ L_=> ?_|refine W.n λh_ X_ n_ g_ S_=> ?_)
 refine W.call rfl rfl rfl (rmake_w (r3 H3 (Nat.le_refl _) λ_ _ _=>rfl) ((Y2.trans X3).fr fr) (sl hw) λH4 c4 X4 r4=> ?_);have nX4:=X4.next;obtain⟨y1,y2,y3,y4,y5,y6,y7,y8,y9,y10,y11,rfl,_⟩:=r4;repeat (first|refine W.g ?_|refine W.m λh_ X_ n_ g_ L_=> ?_|refine W.n λh_ X_ n_ g_ S_=> ?_)
 rename_i G1 XG1 nG1 gG1 LG1;clear LG1 L_;have nXG:=X_.next;refine W.stn (vs:=[.int .i64 w.told.make.1.hz,y1,y2,y3,y4,y5,y6,y7,y8,y9,y10,y11]) (cs':=[.int .i64 w.told.make.1.hz,y1,y2,y3,y4,y5,y6,y7,y8,y9,y10,y11]) rfl rfl rfl rfl rfl rfl ((X_.old H4.next (by omega)).trans gG1) rfl λM1 m1 gM1 kM1=> ?_;repeat (first|refine W.g ?_|refine W.m λh_ X_ n_ g_ L_=> ?_|refine W.n λh_ X_ n_ g_ S_=> ?_)
 refine W.stn (vs:=w.told.make.2.enc) (cs':=w.told.make.2.enc) rfl rfl rfl rfl rfl rfl ((kM1 G1.next (by omega)).trans g_) rfl λM2 m2 gM2 kM2=> ?_;have L4:LocE M2 G1.next 0 w.told.make.2.enc:=⟨_,_,gM2,by omega,rfl⟩;repeat (first|refine W.g ?_|refine W.m λh_ X_ n_ g_ L_=> ?_|refine W.n λh_ X_ n_ g_ S_=> ?_)
 refine W.stn (vs:=w.told.make.2.enc) (cs':=w.told.make.2.enc) rfl rfl rfl rfl rfl rfl ((kM2 H1.next (by omega)).trans ((kM1 H1.next (by omega)).trans (((X2.trans (X3.trans (X4.trans (XG1.trans X_)))).old H1.next (by omega)).trans gR))) rfl λM3 m3 gM3 kM3=> ?_;repeat (first|refine W.g ?_|refine W.m λh_ X_ n_ g_ L_=> ?_|refine W.n λh_ X_ n_ g_ S_=> ?_)
 refine BodyQ.cell1 rfl rfl gM3 rfl rfl ?_;exact q M3 (Ext.store (Ext.store (Ext.store (Y2.trans (X3.trans (X4.trans (XG1.trans X_)))) m1 kM1 (by omega) (by omega)) m2 kM2 (by omega) (by omega)) m3 kM3 (by omega) (by omega))
end
end Go.Proofs.YtfheibkikpefkaaGreatDoor

namespace Go.Proofs.YtfheibkikpefkaaGreatDoor
open Go Go.CM Go.CM.Tt
noncomputable section
set_option maxHeartbeats 8000000
theorem pick_w {h:Heap} {tm:Tm} {Q:R->Prop} (n:Int) (m:Nat) (hm:1<=m) (hm2:m<=1099511627776) (q:∀k:Nat,k<m->Q (.val (.int .i64 (k:Int)) h)):W E1 (.call (.fn 12 [] []) [.int .i64 n,.int .i64 (Int.ofNat m)]) tm h Q:=by
 obtain⟨j,rfl⟩:∃j,m=j+1:=⟨m-1,by omega⟩;have hj:Int.ofNat (j+1)=(j:Int)+1:=rfl;have h1:n.tmod (Int.ofNat (j+1))<Int.ofNat (j+1):=Int.tmod_lt_of_pos n (by omega);have h2: -Int.ofNat (j+1)<n.tmod (Int.ofNat (j+1)):=Int.lt_tmod_of_pos n (by omega);refine W.fn (s:=fnOf Tryz.f12) rfl rfl rfl rfl ?_;try refine W.vv ?_
 rw[decide_eq_false (by omega:¬Int.ofNat (j+1)<1)];refine W.cond (x:=false) rfl (λhc=>by cases hc) (λ_=> ?_);try refine W.vv ?_
 by_cases c:n.tmod (Int.ofNat (j+1))<0
 ·rw[decide_eq_true c]
  refine W.cond (x:=true) rfl (λ_=> ?_) (λhc=>by cases hc);try refine W.vv ?_
  obtain⟨k,hk⟩:∃k:Nat,n.tmod (Int.ofNat (j+1))+Int.ofNat (j+1)=(k:Int):=⟨(n.tmod (Int.ofNat (j+1))+Int.ofNat (j+1)).toNat,by omega⟩;have q:=q k (by omega);rw[<-hk]at q;exact q
 ·rw[decide_eq_false c]
  refine W.cond (x:=false) rfl (λhc=>by cases hc) (λ_=> ?_);try refine W.vv ?_
  obtain⟨k,hk⟩:∃k:Nat,n.tmod (Int.ofNat (j+1))=(k:Int):=⟨(n.tmod (Int.ofNat (j+1))).toNat,by omega⟩;have q:=q k (by omega);rw[<-hk]at q;exact q
theorem own_str {h:Heap} {tm:Tm} {Q:R->Prop} {v:CV} {l:List Str} (sl:Sl h v l) (hm:l.length<=1073741824)
  (q:∀h' v',Ext h h'->OwnR h' h.next 1 v' (l.map Flat.enc)->Q (.val v' h')):W E1 (.call (.fn 58 [] []) [v]) tm h Q:=by
 refine W.fn (s:=fnOf Tryz.f58) rfl rfl rfl rfl ?_;have sg:=Sl.to_map Flat.iff sl;have hlen:(l.map (Flat.enc:Str->List CV)).length=l.length:=List.length_map _;repeat (first|refine W.g ?_|refine W.n λh_ X_ n_ g_ S_=> ?_)
 refine W.apR X_ (z:=1) (l:=[]) (l2:=l.map Flat.enc) (.inr ⟨h.next,0,false,rfl,Nat.le_refl _,by omega,g_,λe he=>(by cases he),.inl ⟨rfl,.inl rfl⟩⟩) (sg.ext X_) rfl rfl rfl rfl rfl rfl rfl rfl rfl rfl rfl rfl (by rw[hlen];show(0+l.length)*16<=_;omega) λv' h' X O=> ?_;repeat refine W.g ?_
 exact q _ _ X O
theorem own_int {h:Heap} {tm:Tm} {Q:R->Prop} {v:CV} {l:List Int} (sl:Sl h v l) (hm:l.length<=1073741824)
  (q:∀h' v',Ext h h'->OwnR h' h.next 1 v' (l.map Flat.enc)->Q (.val v' h')):W E1 (.call (.fn 60 [] []) [v]) tm h Q:=by
 refine W.fn (s:=fnOf Tryz.f60) rfl rfl rfl rfl ?_;have sg:=Sl.to_map Flat.iff sl;have hlen:(l.map (Flat.enc:Int->List CV)).length=l.length:=List.length_map _;repeat (first|refine W.g ?_|refine W.n λh_ X_ n_ g_ S_=> ?_)
 refine W.apR X_ (z:=1) (l:=[]) (l2:=l.map Flat.enc) (.inr ⟨h.next,0,false,rfl,Nat.le_refl _,by omega,g_,λe he=>(by cases he),.inl ⟨rfl,.inl rfl⟩⟩) (sg.ext X_) rfl rfl rfl rfl rfl rfl rfl rfl rfl rfl rfl rfl (by rw[hlen];show(0+l.length)*8<=_;omega) λv' h' X O=> ?_;repeat refine W.g ?_
 exact q _ _ X O
end
end Go.Proofs.YtfheibkikpefkaaGreatDoor

namespace Go.Proofs.YtfheibkikpefkaaGreatDoor
open Go Go.CM Go.CM.Tt
noncomputable section
set_option maxHeartbeats 200000000
set_option maxRecDepth 100000
def _root_.Go.CM.Tt.WorldD.lightW4 (w:WorldD):Prop:=w.names.stops.length<=40/\w.names.paths.length<=40/\w.names.doors.length<=40/\w.names.routes.length<=40/\w.names.trips.length<=40/\w.names.hazards.length<=40/\w.paths.length<=40/\w.doors.length<=40/\w.routes.length<=40/\w.trips.length<=40/\w.hazards.length<=40/\∀r∈w.routes,r.stops.length<=60/\r.rides.length<=60/\r.stays.length<=60
theorem lightWorld4_w {h:Heap} {tm:Tm} {Q:R->Prop} {cs:List CV} {w:WorldD} (r:Rp.R h cs w) (q:∀h' (b:Bool),Ext h h'->(b=true↔w.lightW4)->Q (.val (.bool b) h')):W E1 (.call (.fn 29 [] []) [.agg cs,.int .i64 40]) tm h Q:=by
 obtain⟨a1,a2,a3,a4,a5,a6,a7,a8,a9,a10,a11,rfl,p1,p2,p3,p4,p5,p6,p7,p8,p9,p10,p11⟩:=r;refine W.fn (s:=fnOf Tryz.f29) rfl rfl rfl rfl ?_;by_cases c1:40<w.names.stops.length
 ·repeat (first|refine W.g ?_|refine W.m λh_ X_ n_ g_ L_=> ?_|refine W.n λh_ X_ n_ g_ S_=> ?_)
  exact q _ false Ext.x (Iff.intro (λh=>by cases h) (λh=>by have:=h.1;omega))
 by_cases c2:40<w.names.paths.length
 ·repeat (first|refine W.g ?_|refine W.m λh_ X_ n_ g_ L_=> ?_|refine W.n λh_ X_ n_ g_ S_=> ?_)
  exact q _ false Ext.x (Iff.intro (λh=>by cases h) (λh=>by have:=h.2.1;omega))
 by_cases c3:40<w.names.doors.length
 ·repeat (first|refine W.g ?_|refine W.m λh_ X_ n_ g_ L_=> ?_|refine W.n λh_ X_ n_ g_ S_=> ?_)
  exact q _ false Ext.x (Iff.intro (λh=>by cases h) (λh=>by have:=h.2.2.1;omega))
 by_cases c4:40<w.names.routes.length
 ·repeat (first|refine W.g ?_|refine W.m λh_ X_ n_ g_ L_=> ?_|refine W.n λh_ X_ n_ g_ S_=> ?_)
  exact q _ false Ext.x (Iff.intro (λh=>by cases h) (λh=>by have:=h.2.2.2.1;omega))
 by_cases c5:40<w.names.trips.length
 ·repeat (first|refine W.g ?_|refine W.m λh_ X_ n_ g_ L_=> ?_|refine W.n λh_ X_ n_ g_ S_=> ?_)
  exact q _ false Ext.x (Iff.intro (λh=>by cases h) (λh=>by have:=h.2.2.2.2.1;omega))
 by_cases c6:40<w.names.hazards.length
 ·repeat (first|refine W.g ?_|refine W.m λh_ X_ n_ g_ L_=> ?_|refine W.n λh_ X_ n_ g_ S_=> ?_)
  exact q _ false Ext.x (Iff.intro (λh=>by cases h) (λh=>by have:=h.2.2.2.2.2.1;omega))
 repeat (first|refine W.g ?_|refine W.m λh_ X_ n_ g_ L_=> ?_|refine W.n λh_ X_ n_ g_ S_=> ?_)
 rename_i H1 X1 n1 g1 L1;have L1:=L1.ext X_;have XH:Ext h h_:=X1.trans X_;obtain⟨H,hH⟩:∃H,H=h_:=⟨_,rfl⟩;rw[<-hH]at XH L1 ⊢;clear n1 g1 n_ g_ L_ X_ hH;have p9:=p9.ext XH;refine W.k3 1 2 54 λT=> ?_;by_cases c7:40<w.paths.length
 ·repeat (first|refine W.g ?_|refine W.m λh_ X_ n_ g_ L_=> ?_|refine W.n λh_ X_ n_ g_ S_=> ?_)
  exact q _ false Ext.x (Iff.intro (λh=>by cases h) (λh=>by have:=h.2.2.2.2.2.2.1;omega))
 by_cases c8:40<w.doors.length
 ·repeat (first|refine W.g ?_|refine W.m λh_ X_ n_ g_ L_=> ?_|refine W.n λh_ X_ n_ g_ S_=> ?_)
  exact q _ false Ext.x (Iff.intro (λh=>by cases h) (λh=>by have:=h.2.2.2.2.2.2.2.1;omega))
 by_cases c9:40<w.routes.length
 ·repeat (first|refine W.g ?_|refine W.m λh_ X_ n_ g_ L_=> ?_|refine W.n λh_ X_ n_ g_ S_=> ?_)
  exact q _ false Ext.x (Iff.intro (λh=>by cases h) (λh=>by have:=h.2.2.2.2.2.2.2.2.1;omega))
 by_cases c10:40<w.trips.length
 ·repeat (first|refine W.g ?_|refine W.m λh_ X_ n_ g_ L_=> ?_|refine W.n λh_ X_ n_ g_ S_=> ?_)
  exact q _ false Ext.x (Iff.intro (λh=>by cases h) (λh=>by have:=h.2.2.2.2.2.2.2.2.2.1;omega))
 by_cases c11:40<w.hazards.length
 ·repeat (first|refine W.g ?_|refine W.m λh_ X_ n_ g_ L_=> ?_|refine W.n λh_ X_ n_ g_ S_=> ?_)
  exact q _ false Ext.x (Iff.intro (λh=>by cases h) (λh=>by have:=h.2.2.2.2.2.2.2.2.2.2.1;omega))
 repeat (first|refine W.g ?_|refine W.m λh_ X_ n_ g_ L_=> ?_|refine W.n λh_ X_ n_ g_ S_=> ?_)
 refine W.k2 2 6 λT=> ?_;refine W.loop (σ:=Nat) (λk tm h'=>Ext H h'/\tm.look 2= .ptr (some (h.next,0))/\tm.look 6= .int .i64 (k:Int)/\k<=w.routes.length/\∀(j:Nat) r,j<k->w.routes[j]? =some r->r.stops.length<=60/\r.rides.length<=60/\r.stays.length<=60) (λk=>w.routes.length-k) ?_ (s:=0) ⟨Ext.refl _,rfl,rfl,Nat.zero_le _,λj r hj=>by omega⟩;rintro k tm h' ⟨X,w2,w6,hk,hl⟩;obtain⟨T,rfl⟩:=Tm.t2 w2 w6;clear w2 w6;by_cases d1:k<w.routes.length
 ·have hat:w.routes[k]? =some w.routes[k]:=List.getElem?_eq_getElem d1
  have no:¬(w.routes[k].stops.length<=60/\w.routes[k].rides.length<=60/\w.routes[k].stays.length<=60)->¬w.lightW4:=λh1 h2=>h1 (h2.2.2.2.2.2.2.2.2.2.2.2 _ (List.getElem_mem d1));repeat (first|refine W.g ?_|refine W.m λh_ X_ n_ g_ L_=> ?_|refine W.n λh_ X_ n_ g_ S_=> ?_)
  refine W.ixR p9 d1 rfl rfl rfl rfl rfl rfl rfl λi_ o_ e L_ r_=> ?_;have hlen:=Rp.len r_;obtain⟨u1,u2,u3,rfl,v1,v2,v3⟩:=r_;by_cases e1:60<w.routes[k].stops.length
  ·repeat (first|refine W.g ?_|refine W.m λh_ X_ n_ g_ L_=> ?_|refine W.n λh_ X_ n_ g_ S_=> ?_)
   exact q _ false Ext.x (Iff.intro (λh=>by cases h) (λh=>absurd h (no (by omega))))
  repeat (first|refine W.g ?_|refine W.m λh_ X_ n_ g_ L_=> ?_|refine W.n λh_ X_ n_ g_ S_=> ?_)
  refine W.ixR p9 d1 rfl rfl rfl rfl rfl rfl rfl λi2_ o2_ e' L2_ r2_=> ?_;have hlen2:=Rp.len r2_;obtain⟨u1',u2',u3',rfl,v1',v2',v3'⟩:=r2_;by_cases e2:60<w.routes[k].rides.length
  ·repeat (first|refine W.g ?_|refine W.m λh_ X_ n_ g_ L_=> ?_|refine W.n λh_ X_ n_ g_ S_=> ?_)
   exact q _ false Ext.x (Iff.intro (λh=>by cases h) (λh=>absurd h (no (by omega))))
  repeat (first|refine W.g ?_|refine W.m λh_ X_ n_ g_ L_=> ?_|refine W.n λh_ X_ n_ g_ S_=> ?_)
  refine W.ixR p9 d1 rfl rfl rfl rfl rfl rfl rfl λi3_ o3_ e'' L3_ r3_=> ?_;have hlen3:=Rp.len r3_;obtain⟨u1'',u2'',u3'',rfl,v1'',v2'',v3''⟩:=r3_;by_cases e3:60<w.routes[k].stays.length
  ·repeat (first|refine W.g ?_|refine W.m λh_ X_ n_ g_ L_=> ?_|refine W.n λh_ X_ n_ g_ S_=> ?_)
   exact q _ false Ext.x (Iff.intro (λh=>by cases h) (λh=>absurd h (no (by omega))))
  repeat (first|refine W.g ?_|refine W.m λh_ X_ n_ g_ L_=> ?_|refine W.n λh_ X_ n_ g_ S_=> ?_)
  exact⟨k+1,lessN d1,Ext.x,rfl,rfl,d1,λj r hj hr=>by
   by_cases e:j=k
   ·rw[e,hat]at hr;cases hr;exact⟨by omega,by omega,by omega⟩
   ·exact hl j r (by omega) hr⟩
 ·repeat (first|refine W.g ?_|refine W.m λh_ X_ n_ g_ L_=> ?_|refine W.n λh_ X_ n_ g_ S_=> ?_)
  have ek:k=w.routes.length:=by omega
  exact q _ true Ext.x (Iff.intro (λ_=>⟨by omega,by omega,by omega,by omega,by omega,by omega,by omega,by omega,by omega,by omega,by omega,λr hr=>by
   obtain⟨j,hj⟩:=List.getElem?_of_mem hr;exact hl j r (by rw[ek];exact(List.getElem?_eq_some_iff.1 hj).1) hj⟩) (λ_=>rfl))
end
end Go.Proofs.YtfheibkikpefkaaGreatDoor

noncomputable section
namespace Go.CM.Tt
open Go.CM
open Classical in
def WorldD.countX (w:WorldD) (n:Int):Int:=if w.check.err=0/\0<=n/\n<w.trips.length then w.cntAt n.toNat else 0
open Classical in
def WorldD.oneX (w:WorldD) (n no:Int):RunD×Int:=if w.check.err=0 then if(0<=n/\n<w.trips.length)/\w.hasAt n.toNat no then(w.runAt n.toNat no,0)else(RunD.none,5)else(RunD.none,2)
def RunD.timesOk (r:RunD):Prop:=2<=r.arr.length/\r.dep.length=r.arr.length/\r.arr.getD 0 0=r.dep.getD 0 0/\r.dep.getD (r.arr.length-1) 0=r.arr.getD (r.arr.length-1) 0/\0<=r.arr.getD 0 0/\r.arr.getD (r.arr.length-1) 0<=1099511627776/\
 ∀k,k+1<r.arr.length->r.dep.getD k 0<r.arr.getD (k+1) 0/\r.arr.getD (k+1) 0<=r.dep.getD (k+1) 0
open Classical in
def WorldD.checkR (w:WorldD) (r:RunD):Int:=
 if(w.oneX r.trip r.no).2≠0 then(w.oneX r.trip r.no).2 else if ¬r.timesOk\/r.arr.length≠(w.routeOf (w.tripAt r.trip.toNat)).stops.length then 2 else if w.hz<r.arr.getD (r.arr.length-1) 0 then 9 else 0
open Classical in
theorem WorldD.oneX_bad {w:WorldD} {n no:Int} (h:¬w.check.err=0):w.oneX n no=(RunD.none,2):=by unfold WorldD.oneX;rw[if_neg h]
theorem WorldD.oneX_not {w:WorldD} {n no:Int} (h:w.check.err=0) (h2:¬((0<=n/\n<w.trips.length)/\w.hasAt n.toNat no)):w.oneX n no=(RunD.none,5):=by unfold WorldD.oneX;rw[if_pos h,if_neg h2]
theorem WorldD.oneX_there {w:WorldD} {j:Nat} {no:Int} (h:w.check.err=0) (h2:j<w.trips.length) (h3:w.hasAt j no):w.oneX (j:Int) no=(w.runAt j no,0):=by
 unfold WorldD.oneX;rw[if_pos h,if_pos ⟨⟨by omega,by omega⟩,by rw[Int.toNat_natCast];exact h3⟩,Int.toNat_natCast]
theorem WorldD.countX_bad {w:WorldD} {n:Int} (h:¬(w.check.err=0/\0<=n/\n<w.trips.length)):w.countX n=0:=by unfold WorldD.countX;rw[if_neg h]
theorem WorldD.countX_there {w:WorldD} {j:Nat} (h:w.check.err=0) (h2:j<w.trips.length):w.countX (j:Int)=w.cntAt j:=by
 unfold WorldD.countX;rw[if_pos ⟨h,by omega,by omega⟩,Int.toNat_natCast]
end Go.CM.Tt

namespace Go.Proofs.YtfheibkikpefkaaGreatDoor
open Go Go.CM Go.CM.Tt
noncomputable section
set_option maxHeartbeats 16000000
def _root_.Go.CM.Tt.WorldD.total (w:WorldD):Nat->Int
 |0=>0
 |k+1=>w.total k+w.cntAt k
def _root_.Go.CM.Tt.WorldD.lightX (w:WorldD):Prop:=w.lightW4/\(w.check.err=0->w.total w.trips.length<=600\/16384<w.total w.trips.length)
theorem light4_small {w:WorldD} (l:w.lightW4):w.small:=by
 obtain⟨l1,l2,l3,l4,l5,l6,l7,l8,l9,l10,l11,l12⟩:=l;refine⟨by omega,by omega,by omega,by omega,by omega,by omega,by omega,by omega,by omega,by omega,by omega,λr hr=> ?_⟩;have:=l12 r hr;omega
theorem light4_told {w:WorldD} (l:w.lightW4):w.told.slim:=by
 obtain⟨l1,l2,l3,l4,l5,l6,l7,l8,l9,l10,l11,l12⟩:=l;intro r hr;obtain⟨i,hi,rfl⟩:=List.mem_mapIdx.1 hr;obtain⟨h1,h2,h3⟩:=l12 _ (List.getElem_mem hi);exact⟨by simp only[RouteW.told,List.length_map];omega,by show w.routes[i].rides.length<=1000;omega,by show w.routes[i].stays.length<=1000;omega⟩
theorem cntAt_bound {w:WorldD} (f:w.Fine) {j:Nat} (hj:j<w.trips.length):0<=w.cntAt j/\w.cntAt j<=1099511627777:=by
 obtain⟨t,r,jr,T⟩:=f.at hj;unfold WorldD.cntAt;rw[T.at_,T.of_];refine⟨WorldD.cnt_ge T.v.1,?_⟩;by_cases c:w.cnt t r<=countT t.frm t.evr t.untl
 ·have:=countT_big T.f T.v T.u
  omega
 ·exfalso
  have g:=countT_ge (f:=t.frm) (u:=t.untl) T.v.1;have:=(WorldD.has_iff (w:=w) (r:=r) T.v.1 g).2 (by omega);have:=this.2.1;omega
theorem total_bound {w:WorldD} (f:w.Fine):∀k:Nat,k<=w.trips.length->0<=w.total k/\w.total k<=k*1099511627777
 |0,_=>⟨Int.le_refl _,Int.le_refl _⟩
 |k+1,hk=>by
  have:=total_bound f k (by omega);have:=cntAt_bound f (j:=k) (by omega);unfold WorldD.total;omega
theorem rCount_w {h:Heap} {tm:Tm} {Q:R->Prop} {cs:List CV} {w:WorldD} (r:Rp.R h cs w) (fr:Fresh h) (sm:w.small) (sl:w.whole->w.told.slim) (n:Int) (q:∀h',Ext h h'->Q (.val (.int .i64 (w.countX n)) h')):W E1 (.call (.fn 25 [] []) [.agg cs,.int .i64 n]) tm h Q:=by
 have r0:=r;obtain⟨v1,v2,v3,v4,v5,v6,v7,v8,v9,v10,v11,rfl,_⟩:=r;refine W.fn (s:=fnOf Tryz.f25) rfl rfl rfl rfl ?_;repeat (refine W.seq ?_)
 refine W.region ?_;refine W.box rfl rfl rfl λH1 X1 n1 g1 L1=> ?_;repeat (first|refine W.g ?_|refine W.m λh_ X_ n_ g_ L_=> ?_|refine W.n λh_ X_ n_ g_ S_=> ?_)
 refine W.call rfl rfl rfl (rcheck_w (Rp.ext X1 r0) (X1.fr fr) sm sl λH2 X2=> ?_);obtain⟨c,hc⟩:∃c,c=w.check:=⟨_,rfl⟩;rw[<-hc];have L1:=L1.ext X2;have Y2:=X1.trans X2;refine W.k3 1 2 6 λT=> ?_;by_cases c0:¬c.err=0
 ·repeat (first|refine W.g ?_|refine W.m λh_ X_ n_ g_ L_=> ?_|refine W.n λh_ X_ n_ g_ S_=> ?_)
  have:=q _ Y2;rw[WorldD.countX_bad (λh=>c0 (by rw[hc];exact h.1))]at this;exact this
 have c0:c.err=0:=Decidable.not_not.1 c0;have c1:w.check.err=0:=by rw[<-hc];exact c0
 repeat (first|refine W.g ?_|refine W.m λh_ X_ n_ g_ L_=> ?_|refine W.n λh_ X_ n_ g_ S_=> ?_)
 refine W.call rfl rfl rfl (ris_w (Rp.ext Y2 r0) n λH3 b X3 hb3=> ?_);have L1:=L1.ext X3;have Y3:=Y2.trans X3;refine W.k4 1 2 9 12 λT=> ?_;cases b
 ·repeat (first|refine W.g ?_|refine W.m λh_ X_ n_ g_ L_=> ?_|refine W.n λh_ X_ n_ g_ S_=> ?_)
  have:=q _ Y3;rw[WorldD.countX_bad (λh=>absurd (hb3.2 h.2) (λh=>by cases h))]at this;exact this
 obtain⟨p1,p2⟩:=hb3.1 rfl;obtain⟨j,rfl⟩:∃j:Nat,n=(j:Int):=⟨n.toNat,by omega⟩;have hj:j<w.trips.length:=by omega
 have f:=WorldD.fine c1;obtain⟨t,ro,jr,T⟩:=f.at hj;repeat (first|refine W.g ?_|refine W.m λh_ X_ n_ g_ L_=> ?_|refine W.n λh_ X_ n_ g_ S_=> ?_)
 refine W.call rfl rfl rfl (rexpCount_w (Rp.ext Y3 r0) (Y3.fr fr) f.hz j T λH4 X4=> ?_);repeat (first|refine W.g ?_|refine W.m λh_ X_ n_ g_ L_=> ?_|refine W.n λh_ X_ n_ g_ S_=> ?_)
 have:=q _ (Y3.trans X4);rw[WorldD.countX_there c1 hj]at this;exact this
theorem light_w {h:Heap} {tm:Tm} {Q:R->Prop} {cs:List CV} {w:WorldD} (r:Rp.R h cs w) (fr:Fresh h) (q:∀h' (b:Bool),Ext h h'->(b=true↔w.lightX)->Q (.val (.bool b) h')):W E1 (.call (.fn 10 [] []) [.agg cs]) tm h Q:=by
 have r0:=r;obtain⟨v1,v2,v3,v4,v5,v6,v7,v8,v9,v10,v11,rfl,s1,s2,s3,s4,s5,s6,s7,s8,s9,s10,s11⟩:=r;refine W.fn (s:=fnOf Tryz.f10) rfl rfl rfl rfl ?_;repeat (refine W.seq ?_)
 refine W.region ?_;refine W.box rfl rfl rfl λH1 X1 n1 g1 L1=> ?_;repeat (first|refine W.g ?_|refine W.m λh_ X_ n_ g_ L_=> ?_|refine W.n λh_ X_ n_ g_ S_=> ?_)
 refine W.call rfl rfl rfl (lightWorld4_w (Rp.ext X1 r0) λH2 b X2 hb=> ?_);have L1:=L1.ext X2;have Y2:=X1.trans X2;refine W.k2 1 6 λT=> ?_;cases b
 ·repeat (first|refine W.g ?_|refine W.m λh_ X_ n_ g_ L_=> ?_|refine W.n λh_ X_ n_ g_ S_=> ?_)
  refine W.call rfl rfl rfl (lightWorld4_w (Rp.ext Y2 r0) λH3 b X3 hb3=> ?_);cases b
  ·repeat (first|refine W.g ?_|refine W.m λh_ X_ n_ g_ L_=> ?_|refine W.n λh_ X_ n_ g_ S_=> ?_)
   exact q _ false (Y2.trans X3) (Iff.intro (λh=>by cases h) (λh=>absurd (hb3.2 h.1) (λh=>by cases h)))
  ·exact absurd (hb.2 (hb3.1 rfl)) (λh=>by cases h)
 have lw:=hb.1 rfl;have sm:=light4_small lw;have sl:w.whole->w.told.slim:=λ_=>light4_told lw;repeat (first|refine W.g ?_|refine W.m λh_ X_ n_ g_ L_=> ?_|refine W.n λh_ X_ n_ g_ S_=> ?_)
 refine W.call rfl rfl rfl (rcheck_w (Rp.ext Y2 r0) (Y2.fr fr) sm sl λH3 X3=> ?_);obtain⟨c,hc⟩:∃c,c=w.check:=⟨_,rfl⟩;rw[<-hc];have L1:=L1.ext X3;have Y3:=Y2.trans X3;refine W.k3 1 8 10 λT=> ?_;by_cases c0:¬c.err=0
 ·repeat (first|refine W.g ?_|refine W.m λh_ X_ n_ g_ L_=> ?_|refine W.n λh_ X_ n_ g_ S_=> ?_)
  refine W.call rfl rfl rfl (lightWorld4_w (Rp.ext Y3 r0) λH4 b X4 hb4=> ?_);cases b
  ·exact absurd (hb4.2 lw) (λh=>by cases h)
  ·repeat (first|refine W.g ?_|refine W.m λh_ X_ n_ g_ L_=> ?_|refine W.n λh_ X_ n_ g_ S_=> ?_)
   exact q _ true (Y3.trans X4) (Iff.intro (λ_=>⟨lw,λh=>absurd (by rw[hc];exact h) c0⟩) (λ_=>rfl))
 have c0:c.err=0:=Decidable.not_not.1 c0;have c1:w.check.err=0:=by rw[<-hc];exact c0
 have f:=WorldD.fine c1;have hl:w.trips.length<=40:=lw.2.2.2.2.2.2.2.2.2.1;repeat (first|refine W.g ?_|refine W.m λh_ X_ n_ g_ L_=> ?_|refine W.n λh_ X_ n_ g_ S_=> ?_)
 refine W.k3 1 3 4 λT=> ?_;refine W.loop (σ:=Nat) (λk tm h'=>Ext H3 h'/\tm.look 1= .ptr (some (h.next,0))/\tm.look 3= .int .i64 (w.total k)/\tm.look 4= .int .i64 (k:Int)/\k<=w.trips.length) (λk=>w.trips.length-k) ?_ (s:=0) ⟨Ext.refl _,rfl,rfl,rfl,Nat.zero_le _⟩;rintro k tm h' ⟨X,w1,w3,w4,hk⟩;obtain⟨T,rfl⟩:=Tm.t3 w1 w3 w4;clear w1 w3 w4;have XX:=Y3.trans X;have tb:=total_bound f k hk;by_cases e1:k<w.trips.length
 ·have cb:=cntAt_bound f e1
  repeat (first|refine W.g ?_|refine W.m λh_ X_ n_ g_ L_=> ?_|refine W.n λh_ X_ n_ g_ S_=> ?_)
  refine W.call rfl rfl rfl (rCount_w (Rp.ext XX r0) (XX.fr fr) sm sl (k:Int) λH4 X4=> ?_);rw[WorldD.countX_there c1 e1];repeat (first|refine W.g ?_|refine W.m λh_ X_ n_ g_ L_=> ?_|refine W.n λh_ X_ n_ g_ S_=> ?_)
  exact⟨k+1,lessN e1,X.trans X4,rfl,rfl,rfl,e1⟩
 ·obtain rfl:k=w.trips.length:=by omega
  repeat (first|refine W.g ?_|refine W.m λh_ X_ n_ g_ L_=> ?_|refine W.n λh_ X_ n_ g_ S_=> ?_)
  refine W.k2 3 30 λT=> ?_;by_cases d1:w.total w.trips.length<=600
  ·repeat (first|refine W.g ?_|refine W.m λh_ X_ n_ g_ L_=> ?_|refine W.n λh_ X_ n_ g_ S_=> ?_)
   exact q _ true XX (Iff.intro (λ_=>⟨lw,λ_=> .inl d1⟩) (λ_=>rfl))
  ·by_cases d2:16384<w.total w.trips.length
   ·repeat (first|refine W.g ?_|refine W.m λh_ X_ n_ g_ L_=> ?_|refine W.n λh_ X_ n_ g_ S_=> ?_)
    exact q _ true XX (Iff.intro (λ_=>⟨lw,λ_=> .inr d2⟩) (λ_=>rfl))
   ·repeat (first|refine W.g ?_|refine W.m λh_ X_ n_ g_ L_=> ?_|refine W.n λh_ X_ n_ g_ S_=> ?_)
    exact q _ false XX (Iff.intro (λh=>by cases h) (λh=>by rcases h.2 c1 with h|h<;>omega))
end
end Go.Proofs.YtfheibkikpefkaaGreatDoor

namespace Go.Proofs.YtfheibkikpefkaaGreatDoor
open Go Go.CM Go.CM.Tt
noncomputable section
set_option maxHeartbeats 16000000
theorem Count_w {h:Heap} {tm:Tm} {Q:R->Prop} {cs:List CV} {w:WorldD} (r:Rp.R h cs w) (rh:RH h) (fr:Fresh h) (sm:w.small) (sl:w.whole->w.told.slim) (n:Int) (q:∀h',Ext h h'->Q (.val (.int .i64 (w.countX n)) h')):W E1 (.call (.fn 14 [] []) [.agg cs,.int .i64 n]) tm h Q:=by
 have r0:=r;obtain⟨v1,v2,v3,v4,v5,v6,v7,v8,v9,v10,v11,rfl,_⟩:=r;refine W.fn (s:=fnOf Tryz.f14) rfl rfl rfl rfl ?_;repeat (refine W.seq ?_)
 refine W.region ?_;refine W.box rfl rfl rfl λH1 X1 n1 g1 L1=> ?_;repeat (first|refine W.g ?_|refine W.m λh_ X_ n_ g_ L_=> ?_|refine W.n λh_ X_ n_ g_ S_=> ?_)
 refine W.call rfl rfl rfl (good_w (Rp.ext X1 r0) (rh.ext X1) (X1.fr fr) sm sl λH2 b X2 hb=> ?_);have L1:=L1.ext X2;have Y2:=X1.trans X2;refine W.k3 1 2 6 λT=> ?_;cases b
 ·repeat (first|refine W.g ?_|refine W.m λh_ X_ n_ g_ L_=> ?_|refine W.n λh_ X_ n_ g_ S_=> ?_)
  have:=q _ Y2;rw[WorldD.countX_bad (λh=>absurd (hb.2 h.1) (λh=>by cases h))]at this;exact this
 have c0:=hb.1 rfl;repeat (first|refine W.g ?_|refine W.m λh_ X_ n_ g_ L_=> ?_|refine W.n λh_ X_ n_ g_ S_=> ?_)
 refine W.call rfl rfl rfl (is_w (Rp.ext Y2 r0) n λH3 b X3 hb3=> ?_);have L1:=L1.ext X3;have Y3:=Y2.trans X3;refine W.k4 1 2 8 11 λT=> ?_;cases b
 ·repeat (first|refine W.g ?_|refine W.m λh_ X_ n_ g_ L_=> ?_|refine W.n λh_ X_ n_ g_ S_=> ?_)
  have:=q _ Y3;rw[WorldD.countX_bad (λh=>absurd (hb3.2 h.2) (λh=>by cases h))]at this;exact this
 obtain⟨p1,p2⟩:=hb3.1 rfl;obtain⟨j,rfl⟩:∃j:Nat,n=(j:Int):=⟨n.toNat,by omega⟩;have hj:j<w.trips.length:=by omega
 have f:=WorldD.fine c0;obtain⟨t,ro,jr,T⟩:=f.at hj;repeat (first|refine W.g ?_|refine W.m λh_ X_ n_ g_ L_=> ?_|refine W.n λh_ X_ n_ g_ S_=> ?_)
 refine W.call rfl rfl rfl (expCount_w (Rp.ext Y3 r0) (Y3.fr fr) f.hz j T λH4 X4=> ?_);repeat (first|refine W.g ?_|refine W.m λh_ X_ n_ g_ L_=> ?_|refine W.n λh_ X_ n_ g_ S_=> ?_)
 have:=q _ (Y3.trans X4);rw[WorldD.countX_there c0 hj]at this;exact this
theorem One_w {h:Heap} {tm:Tm} {Q:R->Prop} {cs:List CV} {w:WorldD} (r:Rp.R h cs w) (rh:RH h) (fr:Fresh h) (sm:w.small) (sl:w.whole->w.told.slim) (n no:Int)
  (q:∀h' t0 n0 vA vD arr dep,Ext h h'->OwnG h' h.next [(1,vA,List.map Flat.enc arr),(1,vD,List.map Flat.enc dep)] []->(⟨t0,n0,arr,dep⟩:RunD)=(w.oneX n no).1->Q (.val (.tup [.agg [.int .i64 t0,.int .i64 n0,vA,vD],.int .i64 (w.oneX n no).2]) h')):
  W E1 (.call (.fn 15 [] []) [.agg cs,.int .i64 n,.int .i64 no]) tm h Q:=by
 have r0:=r;obtain⟨v1,v2,v3,v4,v5,v6,v7,v8,v9,v10,v11,rfl,_⟩:=r;refine W.fn (s:=fnOf Tryz.f15) rfl rfl rfl rfl ?_;repeat (refine W.seq ?_)
 refine W.region ?_;refine W.box rfl rfl rfl λH1 X1 n1 g1 L1=> ?_;refine W.al rfl rfl rfl λH2 X2 n2 g2 L2=> ?_;have g6:H2.get H1.next=some (.cells [.int .i64 0,.int .i64 0,.slice none 0 0 0,.slice none 0 0 0] false):=g2;have L1:=L1.ext X2;have XK:=X1.trans X2;clear L2 g1 g2;obtain⟨b6,hb6⟩:∃b,b=H1.next:=⟨_,rfl⟩;rw[<-hb6]at g6 ⊢;have l6:b6<H2.next:=by omega
 have l60:h.next<b6:=by omega
 have zero:∀{M:Heap} {e:Int},Ext h M->w.oneX n no=(RunD.none,e)->Q (.val (.tup [.agg [.int .i64 0,.int .i64 0,.slice none 0 0 0,.slice none 0 0 0],.int .i64 e]) M):=λXM e=>by
  have:=q _ 0 0 _ _ [] [] XM own0 (by rw[e];rfl);rw[e]at this;exact this
 repeat (first|refine W.g ?_|refine W.m λh_ X_ n_ g_ L_=> ?_|refine W.n λh_ X_ n_ g_ S_=> ?_)
 refine W.call rfl rfl rfl (good_w (Rp.ext XK r0) (rh.ext XK) (XK.fr fr) sm sl λH3 b X3 hb=> ?_);have L1:=L1.ext X3;have g6:=(X3.old b6 l6).trans g6;have Y3:=XK.trans X3;have nX3:=X3.next;refine W.k5 1 2 3 6 11 λT=> ?_;cases b
 ·repeat (first|refine W.g ?_|refine W.m λh_ X_ n_ g_ L_=> ?_|refine W.n λh_ X_ n_ g_ S_=> ?_)
  refine W.stn (vs:=[.int .i64 0,.int .i64 0,.slice none 0 0 0,.slice none 0 0 0]) (cs':=[.int .i64 0,.int .i64 0,.slice none 0 0 0,.slice none 0 0 0]) rfl rfl rfl rfl rfl rfl g6 rfl λM nM gM kM=> ?_;repeat (first|refine W.g ?_|refine W.m λh_ X_ n_ g_ L_=> ?_|refine W.n λh_ X_ n_ g_ S_=> ?_)
  refine BodyQ.cellE rfl rfl rfl gM rfl rfl ?_;exact zero (Ext.store Y3 nM kM (by omega) (by omega)) (WorldD.oneX_bad (λh=>absurd (hb.2 h) (λh=>by cases h)))
 have c0:=hb.1 rfl;clear hb;repeat (first|refine W.g ?_|refine W.m λh_ X_ n_ g_ L_=> ?_|refine W.n λh_ X_ n_ g_ S_=> ?_)
 refine W.call rfl rfl rfl (is_w (Rp.ext Y3 r0) n λH4 b X4 hb=> ?_);have L1:=L1.ext X4;have g6:=(X4.old b6 (by omega)).trans g6;have Y4:=Y3.trans X4;have nX4:=X4.next;refine W.k5 1 2 3 6 16 λT=> ?_;cases b
 ·repeat (first|refine W.g ?_|refine W.m λh_ X_ n_ g_ L_=> ?_|refine W.n λh_ X_ n_ g_ S_=> ?_)
  refine W.stn (vs:=[.int .i64 0,.int .i64 0,.slice none 0 0 0,.slice none 0 0 0]) (cs':=[.int .i64 0,.int .i64 0,.slice none 0 0 0,.slice none 0 0 0]) rfl rfl rfl rfl rfl rfl g6 rfl λM nM gM kM=> ?_;repeat (first|refine W.g ?_|refine W.m λh_ X_ n_ g_ L_=> ?_|refine W.n λh_ X_ n_ g_ S_=> ?_)
  refine BodyQ.cellE rfl rfl rfl gM rfl rfl ?_;exact zero (Ext.store Y4 nM kM (by omega) (by omega)) (WorldD.oneX_not c0 (λh=>absurd (hb.2 h.1) (λh=>by cases h)))
 obtain⟨p1,p2⟩:=hb.1 rfl;clear hb;obtain⟨j,hjn⟩:∃j:Nat,n=(j:Int):=⟨n.toNat,by omega⟩;have hj:j<w.trips.length:=by omega
 have f:=WorldD.fine c0;obtain⟨t,ro,jr,T⟩:=f.at hj;rw[hjn];repeat (first|refine W.g ?_|refine W.m λh_ X_ n_ g_ L_=> ?_|refine W.n λh_ X_ n_ g_ S_=> ?_)
 refine W.call rfl rfl rfl (one_w (Rp.ext Y4 r0) (Y4.fr fr) f.hz j T no λH5 t0 n0 vA vD arr dep b X5 hb O5 hrun=> ?_);have g6:=(X5.old b6 (by omega)).trans g6;have Y5:=Y4.trans X5;have nX5:=X5.next;clear L1;refine W.k2 6 21 λT=> ?_;cases b
 ·repeat (first|refine W.g ?_|refine W.m λh_ X_ n_ g_ L_=> ?_|refine W.n λh_ X_ n_ g_ S_=> ?_)
  refine W.stn (vs:=[.int .i64 0,.int .i64 0,.slice none 0 0 0,.slice none 0 0 0]) (cs':=[.int .i64 0,.int .i64 0,.slice none 0 0 0,.slice none 0 0 0]) rfl rfl rfl rfl rfl rfl ((X_.old b6 (by omega)).trans g6) rfl λM nM gM kM=> ?_;repeat (first|refine W.g ?_|refine W.m λh_ X_ n_ g_ L_=> ?_|refine W.n λh_ X_ n_ g_ S_=> ?_)
  refine BodyQ.cellE rfl rfl rfl gM rfl rfl ?_
  exact zero (Ext.store (Y5.trans X_) nM kM (by omega) (by omega)) (WorldD.oneX_not c0 (λh=>by
   have h2:=h.2;rw[hjn,Int.toNat_natCast]at h2;exact absurd (hb.2 h2) (λh=>by cases h)))
 ·repeat (first|refine W.g ?_|refine W.m λh_ X_ n_ g_ L_=> ?_|refine W.n λh_ X_ n_ g_ S_=> ?_)
  refine W.stn (vs:=[.int .i64 t0,.int .i64 n0,vA,vD]) (cs':=[.int .i64 t0,.int .i64 n0,vA,vD]) rfl rfl rfl rfl rfl rfl ((X_.old b6 (by omega)).trans g6) rfl λM nM gM kM=> ?_;repeat (first|refine W.g ?_|refine W.m λh_ X_ n_ g_ L_=> ?_|refine W.n λh_ X_ n_ g_ S_=> ?_)
  refine BodyQ.cellE rfl rfl rfl gM rfl rfl ?_;have e1:w.oneX n no=(w.runAt j no,0):=by rw[hjn];exact WorldD.oneX_there c0 hj (hb.1 rfl)
  have:=q M t0 n0 vA vD arr dep (Ext.store (Y5.trans X_) nM kM (by omega) (by omega)) (((O5.ext X_).keep (h':=M) (by omega) λk hk=>kM k (by have:=(O5.lt k hk).1;omega)).low (by omega)) (by rw[e1];exact hrun rfl);rw[e1]at this;exact this
end
end Go.Proofs.YtfheibkikpefkaaGreatDoor
