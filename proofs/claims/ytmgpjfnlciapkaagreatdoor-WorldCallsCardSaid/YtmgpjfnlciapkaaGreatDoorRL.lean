/- The document's answer: what is wrong with a world, the sheet that it tells, where a name is found. No condition but that memory beyond the next number is empty. -/
import Derived.Test.YtmgpjfnlciapkaaGreatDoorXU
import Derived.Test.YtmgpjfnlciapkaaGreatDoorRG
import Derived.Test.YtmgpjfnlciapkaaGreatDoorRI
import Derived.Test.YtmgpjfnlciapkaaGreatDoorRJ
import Derived.Test.YtmgpjfnlciapkaaGreatDoorZYf
import Derived.Test.YtmgpjfnlciapkaaGreatDoorYW
import Derived.Test.YtmgpjfnlciapkaaGreatDoorZH
import Derived.Test.YtmgpjfnlciapkaaGreatDoorZYa
import Derived.Test.YtmgpjfnlciapkaaGreatDoorZC
set_option linter.unusedVariables false
set_option linter.unusedSimpArgs false
namespace Go.Proofs.YtmgpjfnlciapkaaGreatDoor
open Go Go.CM Go.CM.Tt
noncomputable section
set_option maxHeartbeats 16000000
theorem rcheck_w {h:Heap} {tm:Tm} {Q:R->Prop} {cs:List CV} {w:WorldD} (r:Rp.R h cs w) (fr:Fresh h) (sm:w.small) (sl:w.whole->w.told.slim) (q:∀h',Ext h h'->Q (.val (.agg w.check.enc) h')):W E1 (.call (.fn 20 [] []) [.agg cs]) tm h Q:=by
 have r0:=r;obtain⟨v1,v2,v3,v4,v5,v6,v7,v8,v9,v10,v11,rfl,s1,s2,s3,s4,s5,s6,s7,s8,s9,s10,s11⟩:=r;refine W.fn (s:=fnOf Tryz.f20) rfl rfl rfl rfl ?_;repeat (refine W.seq ?_)
 refine W.region ?_;refine W.box rfl rfl rfl λH1 XH1 nH1 gH1 LH1=> ?_;repeat (first|refine W.g ?_|refine W.m λh_ X_ n_ g_ L_=> ?_)
 obtain⟨H,hH⟩:∃H,H=h_:=⟨_,rfl⟩;rw[<-hH]at X_ n_ g_ L_ ⊢;have XA:=X_;have nA:=n_;have gR:H.get H1.next=some (.cells [.int .i64 0,.int .i64 0,.int .i64 0] false):=g_;clear X_ n_ g_ L_ hH;have XH:Ext h H:=XH1.trans XA;have LH:=LH1.ext XA;refine W.call rfl rfl rfl (rwhole_w (Rp.ext XH r0) (XH.fr fr) sm λH2 b X2 hb=> ?_);have nX2:=X2.next;have L2:=LH.ext X2;clear LH LH1;cases b
 ·have e:w.check=⟨2,0,0⟩:=by unfold WorldD.check;rw[if_neg (λh=>by cases hb.2 h)]
  rw[e]at q;repeat refine W.g ?_
  refine W.call rfl rfl rfl (rwrong_w _ _ _ λH3 X3=> ?_);have nX3:=X3.next;repeat refine W.g ?_
  refine W.stn (vs:=[.int .i64 2,.int .i64 0,.int .i64 0]) (cs':=[.int .i64 2,.int .i64 0,.int .i64 0]) rfl rfl rfl rfl rfl rfl (((X2.trans X3).old _ (by omega)).trans gR) rfl λM nM gM kM=> ?_;repeat refine W.g ?_
  refine BodyQ.cell1 rfl rfl gM rfl rfl ?_;exact q M (Ext.store (XH.trans (X2.trans X3)) nM kM (by omega) (by omega))
 have hw:=hb.1 rfl;have e:w.check=w.told.make.2:=by unfold WorldD.check;rw[if_pos hw]
 rw[e]at q;have Y2:=XH.trans X2;repeat refine W.g ?_
 refine W.call rfl rfl rfl (rtold_w (Rp.ext Y2 r0) (Y2.fr fr) hw sm λH3 e3 X3 r3=> ?_);have nX3:=X3.next;repeat refine W.g ?_
 refine W.call rfl rfl rfl (rmake_w (r3 H3 (Nat.le_refl _) λ_ _ _=>rfl) ((Y2.trans X3).fr fr) (sl hw) λH4 c4 X4 r4=> ?_);have nX4:=X4.next;obtain⟨y1,y2,y3,y4,y5,y6,y7,y8,y9,y10,y11,rfl,_⟩:=r4;repeat (first|refine W.g ?_|refine W.m λh_ X_ n_ g_ L_=> ?_)
 rename_i G1 XG1 nG1 gG1 LG1;clear LG1 L_;have nXG:=X_.next;refine W.stn (vs:=[.int .i64 w.told.make.1.hz,y1,y2,y3,y4,y5,y6,y7,y8,y9,y10,y11]) (cs':=[.int .i64 w.told.make.1.hz,y1,y2,y3,y4,y5,y6,y7,y8,y9,y10,y11]) rfl rfl rfl rfl rfl rfl ((X_.old H4.next (by omega)).trans gG1) rfl λM1 m1 gM1 kM1=> ?_;refine W.stn (vs:=w.told.make.2.enc) (cs':=w.told.make.2.enc) rfl rfl rfl rfl rfl rfl ((kM1 G1.next (by omega)).trans g_) rfl λM2 m2 gM2 kM2=> ?_;have L4:LocE M2 G1.next 0 w.told.make.2.enc:=⟨_,_,gM2,by omega,rfl⟩;repeat refine W.g ?_
 refine W.stn (vs:=w.told.make.2.enc) (cs':=w.told.make.2.enc) rfl rfl rfl rfl rfl rfl ((kM2 H1.next (by omega)).trans ((kM1 H1.next (by omega)).trans (((X2.trans (X3.trans (X4.trans (XG1.trans X_)))).old H1.next (by omega)).trans gR))) rfl λM3 m3 gM3 kM3=> ?_;repeat refine W.g ?_
 refine BodyQ.cell1 rfl rfl gM3 rfl rfl ?_;exact q M3 (Ext.store (Ext.store (Ext.store (Y2.trans (X3.trans (X4.trans (XG1.trans X_)))) m1 kM1 (by omega) (by omega)) m2 kM2 (by omega) (by omega)) m3 kM3 (by omega) (by omega))
theorem rsheet_w {h:Heap} {tm:Tm} {Q:R->Prop} {cs:List CV} {w:WorldD} (r:Rp.R h cs w) (fr:Fresh h) (sm:w.small) (sl:w.whole->w.told.slim) (q:∀h' c1,Ext h h'->Rp.R h' c1 w.sheet.1->Q (.val (.tup [.agg c1,.int .i64 w.sheet.2]) h')):W E1 (.call (.fn 16 [] []) [.agg cs]) tm h Q:=by
 have r0:=r;obtain⟨v1,v2,v3,v4,v5,v6,v7,v8,v9,v10,v11,rfl,_⟩:=r;refine W.fn (s:=fnOf Tryz.f16) rfl rfl rfl rfl ?_;repeat (refine W.seq ?_)
 refine W.region ?_;refine W.box rfl rfl rfl λHa Xa na ga La=> ?_;refine W.al rfl rfl rfl λH0 X0 n0 g0 L0=> ?_;clear L0;have g0:H0.get Ha.next=some (.cells [.int .i64 0,.slice none 0 0 0,.slice none 0 0 0,.slice none 0 0 0,.slice none 0 0 0,.slice none 0 0 0,.slice none 0 0 0] false):=g0;have L1:=La.ext X0;have X1:=Xa.trans X0;have nX1:=X1.next;clear La;repeat refine W.g ?_
 refine W.call rfl rfl rfl (rcheck_w (Rp.ext X1 r0) (X1.fr fr) sm sl λH2 X2=> ?_);have L1:=L1.ext X2;have g0:=(X2.old _ (by omega)).trans g0;have Y2:=X1.trans X2;have nX2:=X2.next;refine W.k4 1 2 3 6 λT=> ?_;repeat (first|refine W.g ?_|refine W.m λh_ X_ n_ g_ L_=> ?_)
 have Lc:LocE h_ H2.next 0 w.check.enc:=L_;have L1:=L1.ext X_;have g0:=(X_.old _ (by omega)).trans g0;have Y3:Ext h h_:=Y2.trans X_;have nX3:=X_.next;obtain⟨K,hK⟩:∃K,K=h_:=⟨_,rfl⟩;rw[<-hK]at Lc L1 g0 Y3 nX3 ⊢;clear X_ g_ L_;by_cases c:w.check.err=0
 ·have hw:w.whole:=by
    by_cases hw:w.whole
    ·exact hw
    ·exfalso
     unfold WorldD.check at c;rw[if_neg hw]at c;cases c
  have e:w.sheet=(w.told,0):=by unfold WorldD.sheet;rw[if_pos c]
  rw[e]at q;repeat refine W.g ?_
  refine W.call rfl rfl rfl (rtold_w (Rp.ext Y3 r0) (Y3.fr fr) hw sm λH3 e3 X3 r30=> ?_);have nX4:=X3.next;have g0:=(X3.old _ (by omega)).trans g0;have r3:=r30 H3 (Nat.le_refl _) λ_ _ _=>rfl;obtain⟨x1,x2,x3,x4,x5,x6,rfl,_⟩:=r3;refine W.k4 1 2 3 14 λT=> ?_;refine W.stn (vs:=[.int .i64 w.told.hz,x1,x2,x3,x4,x5,x6]) (cs':=[.int .i64 w.told.hz,x1,x2,x3,x4,x5,x6]) rfl rfl rfl rfl rfl rfl g0 rfl λM nM gM kM=> ?_;repeat refine W.g ?_
  refine BodyQ.cellT rfl rfl rfl gM rfl rfl ?_;exact q M _ (Ext.store (Y3.trans X3) nM kM (by omega) (by omega)) (r30 M (by omega) λk h1 h2=>kM k (by omega))
 ·have e:w.sheet=(SheetD.none,w.check.err):=by unfold WorldD.sheet;rw[if_neg c]
  rw[e]at q;repeat refine W.g ?_
  have dv:DV (λb=>b=H2.next) K [] [] []:=DV.start (λb hb=>by rw[hb];obtain⟨_,_,_,hl,_⟩:=Lc;exact hl);try refine W.dv ?_
  refine W.ldV (k:=0) dv rfl Lc rfl rfl rfl rfl rfl rfl rfl λq1 G1 dv1 s1 L1'=> ?_;try refine W.dv ?_
  have n1':=s1.next;refine W.stV (vs:=[.int .i64 0,.slice none 0 0 0,.slice none 0 0 0,.slice none 0 0 0,.slice none 0 0 0,.slice none 0 0 0,.slice none 0 0 0]) (cs':=[.int .i64 0,.slice none 0 0 0,.slice none 0 0 0,.slice none 0 0 0,.slice none 0 0 0,.slice none 0 0 0,.slice none 0 0 0]) dv1 (by intro hc;have hc:Ha.next=H2.next:=hc;omega) rfl rfl rfl rfl rfl rfl rfl ((s1.get _).trans g0) rfl λq2 M hr2 s2=> ?_;try refine W.dv ?_
  have nM:M.next=G1.next:=s2.next;have kM:∀k,k≠Ha.next->M.get k=G1.get k:=λk hk=>by rw[s2.get,Heap.get_put,if_neg (Ne.symm hk)]
  have gM:M.get Ha.next=some (.cells [.int .i64 0,.slice none 0 0 0,.slice none 0 0 0,.slice none 0 0 0,.slice none 0 0 0,.slice none 0 0 0,.slice none 0 0 0] false):=by rw[s2.get,put_same]
  repeat refine W.g ?_
  refine BodyQ.cellT rfl rfl rfl gM rfl rfl ?_;exact q M _ (Ext.store (Y3.trans s1.ext) nM kM (by omega) (by omega)) ⟨_,_,_,_,_,_,rfl,Sl.nil,Sl.nil,Sl.nil,Sl.nil,Sl.nil,Sl.nil⟩
theorem rfind_w {h:Heap} {tm:Tm} {Q:R->Prop} {cs:List CV} {w:WorldD} (s:Str) (r:Rp.R h cs w) (sm:w.small) (q:∀h',Ext h h'->Q (.val (.tup [.int .i64 (w.names.find s).1,.int .i64 (w.names.find s).2]) h')):W E1 (.call (.fn 17 [] []) [.agg cs,.str s]) tm h Q:=by
 obtain⟨v1,v2,v3,v4,v5,v6,v7,v8,v9,v10,v11,rfl,s1,s2,s3,s4,s5,s6,s7,s8,s9,s10,s11⟩:=r;obtain⟨f1,f2,f3,f4,f5,f6,_⟩:=sm;refine W.fn (s:=fnOf Tryz.f17) rfl rfl rfl rfl ?_;repeat (refine W.seq ?_)
 refine W.region ?_;refine W.box rfl rfl rfl λH XH nH gH LH=> ?_;repeat refine W.g ?_
 refine W.call rfl rfl rfl (rlists_w (n:=w.names) (show Rp.R H [v1,v2,v3,v4,v5,v6] w.names from⟨_,_,_,_,_,_,rfl,s1.ext XH,s2.ext XH,s3.ext XH,s4.ext XH,s5.ext XH,s6.ext XH⟩) λG v XG sl=> ?_);have ef:w.names.find s=findL s [w.names.stops,w.names.paths,w.names.doors,w.names.routes,w.names.trips,w.names.hazards] 1:=rfl;rw[ef]at q;have hle:∀l∈([w.names.stops,w.names.paths,w.names.doors,w.names.routes,w.names.trips,w.names.hazards]:List (List Str)),l.length<=1048576:=by simp;omega
 obtain⟨L,hL⟩:∃L,L=[w.names.stops,w.names.paths,w.names.doors,w.names.routes,w.names.trips,w.names.hazards]:=⟨_,rfl⟩;rw[<-hL]at q sl hle;have h6:L.length=6:=by rw[hL];rfl
 refine W.k2 1 11 λT=> ?_;repeat refine W.g ?_
 refine W.loop (σ:=Nat) (λk tm h'=>Ext G h'/\tm.look 1= .str s/\tm.look 6=v/\tm.look 7= .int .i64 (k:Int)/\k<=L.length/\∀n m,n<k->L[n]? =some m->¬0<=place m s) (λk=>L.length-k) ?_ (s:=0) ⟨Ext.refl _,rfl,rfl,rfl,Nat.zero_le _,λn m hn=>by omega⟩;rintro k tm h' ⟨X,w1,w6,w7,hk,hno⟩;obtain⟨T,rfl⟩:=Tm.t3 w1 w6 w7;clear w1 w6 w7;have sl2:=sl.ext X;by_cases c1:k<L.length
 ·have hkl:L[k]? =some L[k]:=List.getElem?_eq_getElem c1
  have hl:=hle _ (List.getElem_mem c1);repeat refine W.g ?_
  refine W.ixR sl2 c1 rfl rfl rfl rfl rfl rfl rfl λi1 o1 e1 L1 re=> ?_;obtain⟨u,rfl,su⟩:=re;repeat refine W.g ?_
  refine W.call rfl rfl rfl (rplace_w s su (by omega) ?_);by_cases c2:0<=place L[k] s
  ·repeat refine W.g ?_
   have:=q _ (XH.trans (XG.trans X));rw[findL_some (i:=1) hno hkl c2]at this;rw[show(1:Int)+k=(k:Int)+1 by omega]at this;exact this
  ·repeat refine W.g ?_
   refine⟨k+1,lessN c1,X,rfl,rfl,rfl,c1,λn m hn hm=> ?_⟩;by_cases e:n=k
   ·subst e
    rw[hkl]at hm;cases hm;exact c2
   ·exact hno n m (by omega) hm
 ·repeat refine W.g ?_
  have:=q _ (XH.trans (XG.trans X));rw[findL_none (i:=1) λn m hm=>hno n m (by have:=(List.getElem?_eq_some_iff.1 hm).1;omega) hm]at this;exact this
end
end Go.Proofs.YtmgpjfnlciapkaaGreatDoor

namespace Go.Proofs.YtmgpjfnlciapkaaGreatDoor
open Go Go.CM Go.CM.Tt
noncomputable section
set_option maxHeartbeats 200000000
set_option maxRecDepth 100000
def _root_.Go.CM.Tt.WorldD.lightW (w:WorldD):Prop:=w.names.stops.length<=60/\w.names.paths.length<=60/\w.names.doors.length<=60/\w.names.routes.length<=60/\w.names.trips.length<=60/\w.names.hazards.length<=60/\w.paths.length<=60/\w.doors.length<=60/\w.routes.length<=60/\w.trips.length<=60/\w.hazards.length<=60/\∀r∈w.routes,r.stops.length<=60/\r.rides.length<=60/\r.stays.length<=60
theorem lightWorld_w {h:Heap} {tm:Tm} {Q:R->Prop} {cs:List CV} {w:WorldD} (r:Rp.R h cs w) (q:∀h' (b:Bool),Ext h h'->(b=true↔w.lightW)->Q (.val (.bool b) h')):W E1 (.call (.fn 13 [] []) [.agg cs,.int .i64 60]) tm h Q:=by
 obtain⟨a1,a2,a3,a4,a5,a6,a7,a8,a9,a10,a11,rfl,p1,p2,p3,p4,p5,p6,p7,p8,p9,p10,p11⟩:=r;refine W.fn (s:=fnOf Tryz.f13) rfl rfl rfl rfl ?_;by_cases c1:60<w.names.stops.length
 ·repeat (first|refine W.g ?_|refine W.m λh_ X_ n_ g_ L_=> ?_)
  exact q _ false Ext.x (Iff.intro (λh=>by cases h) (λh=>by have:=h.1;omega))
 by_cases c2:60<w.names.paths.length
 ·repeat (first|refine W.g ?_|refine W.m λh_ X_ n_ g_ L_=> ?_)
  exact q _ false Ext.x (Iff.intro (λh=>by cases h) (λh=>by have:=h.2.1;omega))
 by_cases c3:60<w.names.doors.length
 ·repeat (first|refine W.g ?_|refine W.m λh_ X_ n_ g_ L_=> ?_)
  exact q _ false Ext.x (Iff.intro (λh=>by cases h) (λh=>by have:=h.2.2.1;omega))
 by_cases c4:60<w.names.routes.length
 ·repeat (first|refine W.g ?_|refine W.m λh_ X_ n_ g_ L_=> ?_)
  exact q _ false Ext.x (Iff.intro (λh=>by cases h) (λh=>by have:=h.2.2.2.1;omega))
 by_cases c5:60<w.names.trips.length
 ·repeat (first|refine W.g ?_|refine W.m λh_ X_ n_ g_ L_=> ?_)
  exact q _ false Ext.x (Iff.intro (λh=>by cases h) (λh=>by have:=h.2.2.2.2.1;omega))
 by_cases c6:60<w.names.hazards.length
 ·repeat (first|refine W.g ?_|refine W.m λh_ X_ n_ g_ L_=> ?_)
  exact q _ false Ext.x (Iff.intro (λh=>by cases h) (λh=>by have:=h.2.2.2.2.2.1;omega))
 repeat (first|refine W.g ?_|refine W.m λh_ X_ n_ g_ L_=> ?_)
 rename_i H1 X1 n1 g1 L1;have L1:=L1.ext X_;have XH:Ext h h_:=X1.trans X_;obtain⟨H,hH⟩:∃H,H=h_:=⟨_,rfl⟩;rw[<-hH]at XH L1 ⊢;clear n1 g1 n_ g_ L_ X_ hH;have p9:=p9.ext XH;refine W.k3 1 2 54 λT=> ?_;by_cases c7:60<w.paths.length
 ·repeat refine W.g ?_
  exact q _ false Ext.x (Iff.intro (λh=>by cases h) (λh=>by have:=h.2.2.2.2.2.2.1;omega))
 by_cases c8:60<w.doors.length
 ·repeat refine W.g ?_
  exact q _ false Ext.x (Iff.intro (λh=>by cases h) (λh=>by have:=h.2.2.2.2.2.2.2.1;omega))
 by_cases c9:60<w.routes.length
 ·repeat refine W.g ?_
  exact q _ false Ext.x (Iff.intro (λh=>by cases h) (λh=>by have:=h.2.2.2.2.2.2.2.2.1;omega))
 by_cases c10:60<w.trips.length
 ·repeat refine W.g ?_
  exact q _ false Ext.x (Iff.intro (λh=>by cases h) (λh=>by have:=h.2.2.2.2.2.2.2.2.2.1;omega))
 by_cases c11:60<w.hazards.length
 ·repeat refine W.g ?_
  exact q _ false Ext.x (Iff.intro (λh=>by cases h) (λh=>by have:=h.2.2.2.2.2.2.2.2.2.2.1;omega))
 repeat refine W.g ?_
 refine W.k2 2 6 λT=> ?_;refine W.loop (σ:=Nat) (λk tm h'=>Ext H h'/\tm.look 2= .ptr (some (h.next,0))/\tm.look 6= .int .i64 (k:Int)/\k<=w.routes.length/\∀(j:Nat) r,j<k->w.routes[j]? =some r->r.stops.length<=60/\r.rides.length<=60/\r.stays.length<=60) (λk=>w.routes.length-k) ?_ (s:=0) ⟨Ext.refl _,rfl,rfl,Nat.zero_le _,λj r hj=>by omega⟩;rintro k tm h' ⟨X,w2,w6,hk,hl⟩;obtain⟨T,rfl⟩:=Tm.t2 w2 w6;clear w2 w6;by_cases d1:k<w.routes.length
 ·have hat:w.routes[k]? =some w.routes[k]:=List.getElem?_eq_getElem d1
  have no:¬(w.routes[k].stops.length<=60/\w.routes[k].rides.length<=60/\w.routes[k].stays.length<=60)->¬w.lightW:=λh1 h2=>h1 (h2.2.2.2.2.2.2.2.2.2.2.2 _ (List.getElem_mem d1));repeat refine W.g ?_
  refine W.ixR p9 d1 rfl rfl rfl rfl rfl rfl rfl λi_ o_ e L_ r_=> ?_;have hlen:=Rp.len r_;obtain⟨u1,u2,u3,rfl,v1,v2,v3⟩:=r_;by_cases e1:60<w.routes[k].stops.length
  ·repeat refine W.g ?_
   exact q _ false Ext.x (Iff.intro (λh=>by cases h) (λh=>absurd h (no (by omega))))
  repeat refine W.g ?_
  refine W.ixR p9 d1 rfl rfl rfl rfl rfl rfl rfl λi2_ o2_ e' L2_ r2_=> ?_;have hlen2:=Rp.len r2_;obtain⟨u1',u2',u3',rfl,v1',v2',v3'⟩:=r2_;by_cases e2:60<w.routes[k].rides.length
  ·repeat refine W.g ?_
   exact q _ false Ext.x (Iff.intro (λh=>by cases h) (λh=>absurd h (no (by omega))))
  repeat refine W.g ?_
  refine W.ixR p9 d1 rfl rfl rfl rfl rfl rfl rfl λi3_ o3_ e'' L3_ r3_=> ?_;have hlen3:=Rp.len r3_;obtain⟨u1'',u2'',u3'',rfl,v1'',v2'',v3''⟩:=r3_;by_cases e3:60<w.routes[k].stays.length
  ·repeat refine W.g ?_
   exact q _ false Ext.x (Iff.intro (λh=>by cases h) (λh=>absurd h (no (by omega))))
  repeat refine W.g ?_
  exact⟨k+1,lessN d1,Ext.x,rfl,rfl,d1,λj r hj hr=>by
   by_cases e:j=k
   ·rw[e,hat]at hr;cases hr;exact⟨by omega,by omega,by omega⟩
   ·exact hl j r (by omega) hr⟩
 ·repeat refine W.g ?_
  have ek:k=w.routes.length:=by omega
  exact q _ true Ext.x (Iff.intro (λ_=>⟨by omega,by omega,by omega,by omega,by omega,by omega,by omega,by omega,by omega,by omega,by omega,λr hr=>by
   obtain⟨j,hj⟩:=List.getElem?_of_mem hr;exact hl j r (by rw[ek];exact(List.getElem?_eq_some_iff.1 hj).1) hj⟩) (λ_=>rfl))
end
end Go.Proofs.YtmgpjfnlciapkaaGreatDoor

namespace Go.Proofs.YtmgpjfnlciapkaaGreatDoor
open Go Go.CM Go.CM.Tt
noncomputable section
set_option maxHeartbeats 16000000
theorem list_same {α:Type} {l m:List α} (hn:l.length=m.length) (hl:∀j:Nat,j<l.length->l[j]? =m[j]?):l=m:=by
 apply List.ext_getElem? ;intro j;by_cases hj:j<l.length
 ·exact hl j hj
 ·rw[List.getElem?_eq_none (by omega),List.getElem?_eq_none (by omega)]
theorem list_differ {α:Type} {l m:List α} {k:Nat} (h1:k<l.length) (h2:k<m.length) (hd:¬l[k]=m[k]):¬l=m:=λe=>hd (by subst e;rfl)
theorem same2_str {h:Heap} {tm:Tm} {Q:R->Prop} {v w:CV} {l m:List Str} (fr:Fresh h) (s1:Sl h v l) (s2:Sl h w m) (hm:l.length<=1099511627776) (hm2:m.length<=1099511627776) (q:∀h' (b:Bool),Ext h h'->(b=true↔l=m)->Q (.val (.bool b) h')):W E1 (.call (.fn 41 [] []) [v,w]) tm h Q:=by
 refine W.fn (s:=fnOf Tryz.f41) rfl rfl rfl rfl ?_;by_cases c0:l.length=m.length
 case neg=>
  have c0':¬(l.length:Int)=(m.length:Int):=by omega
  repeat refine W.g ?_
  exact q _ false (Ext.refl _) (Iff.intro (λh=>by cases h) (λh=>absurd (by rw[h]) c0))
 have c0':(l.length:Int)=(m.length:Int):=by omega
 repeat refine W.g ?_
 refine W.loop (σ:=Nat) (λk tm h'=>Ext h h'/\tm.look 0=v/\tm.look 1=w/\tm.look 5= .int .i64 (k:Int)/\k<=l.length/\∀j:Nat,j<k->l[j]? =m[j]?) (λk=>l.length-k) ?_ (s:=0) ⟨Ext.refl _,rfl,rfl,rfl,Nat.zero_le _,λj hj=>by omega⟩;rintro k tm h' ⟨X,w0,w1,w5,hk,hl⟩;obtain⟨T,rfl⟩:=Tm.t3 w0 w1 w5;clear w0 w1 w5;by_cases c1:k<l.length
 ·have c2:k<m.length:=by omega
  repeat refine W.g ?_
  have ds:=DX.start (X.fr fr);try refine W.dv ?_
  refine W.dixF s1 c1 rfl rfl rfl rfl rfl rfl rfl λi1 o1 L1=> ?_;repeat (first|refine W.gd ?_|refine W.e λr_ h_ ds_ s_=> ?_)
  clear ds;have X1:=ds_.x;refine W.dixF s2 c2 rfl rfl rfl rfl rfl rfl rfl λi2 o2 L2=> ?_;repeat (first|refine W.gd ?_|refine W.e λr_ h_ ds_ s_=> ?_)
  have X2:=ds_.x;by_cases d1:l[k]=m[k]
  ·rw[show bytesEq l[k] m[k]=true by rw[bytesEq_eq,d1];simp]
   repeat refine W.g ?_
   exact⟨k+1,lessN c1,X.trans X2,rfl,rfl,rfl,c1,λj hj=>by
    by_cases e:j=k
    ·rw[e,List.getElem?_eq_getElem c1,List.getElem?_eq_getElem c2,d1]
    ·exact hl j (by omega)⟩
  ·rw[show bytesEq l[k] m[k]=false by rw[bytesEq_eq];simp[d1]]
   repeat refine W.g ?_
   exact q _ false (X.trans X2) (Iff.intro (λh=>by cases h) (λh=>absurd h (list_differ c1 c2 d1)))
 ·repeat refine W.g ?_
  exact q _ true X (Iff.intro (λ_=>list_same c0 λj hj=>hl j (by omega)) (λ_=>rfl))
theorem same2_nt {h:Heap} {tm:Tm} {Q:R->Prop} {v w:CV} {l m:List Int} (fr:Fresh h) (s1:Sl h v l) (s2:Sl h w m) (hm:l.length<=1099511627776) (hm2:m.length<=1099511627776) (q:∀h' (b:Bool),Ext h h'->(b=true↔l=m)->Q (.val (.bool b) h')):W E1 (.call (.fn 46 [] []) [v,w]) tm h Q:=by
 refine W.fn (s:=fnOf Tryz.f46) rfl rfl rfl rfl ?_;by_cases c0:l.length=m.length
 case neg=>
  have c0':¬(l.length:Int)=(m.length:Int):=by omega
  repeat refine W.g ?_
  exact q _ false (Ext.refl _) (Iff.intro (λh=>by cases h) (λh=>absurd (by rw[h]) c0))
 have c0':(l.length:Int)=(m.length:Int):=by omega
 repeat refine W.g ?_
 refine W.loop (σ:=Nat) (λk tm h'=>Ext h h'/\tm.look 0=v/\tm.look 1=w/\tm.look 5= .int .i64 (k:Int)/\k<=l.length/\∀j:Nat,j<k->l[j]? =m[j]?) (λk=>l.length-k) ?_ (s:=0) ⟨Ext.refl _,rfl,rfl,rfl,Nat.zero_le _,λj hj=>by omega⟩;rintro k tm h' ⟨X,w0,w1,w5,hk,hl⟩;obtain⟨T,rfl⟩:=Tm.t3 w0 w1 w5;clear w0 w1 w5;by_cases c1:k<l.length
 ·have c2:k<m.length:=by omega
  repeat refine W.g ?_
  have ds:=DX.start (X.fr fr);try refine W.dv ?_
  refine W.dixF s1 c1 rfl rfl rfl rfl rfl rfl rfl λi1 o1 L1=> ?_;repeat (first|refine W.gd ?_|refine W.e λr_ h_ ds_ s_=> ?_)
  clear ds;have X1:=ds_.x;refine W.dixF s2 c2 rfl rfl rfl rfl rfl rfl rfl λi2 o2 L2=> ?_;repeat (first|refine W.gd ?_|refine W.e λr_ h_ ds_ s_=> ?_)
  have X2:=ds_.x;by_cases d1:l[k]=m[k]
  ·have d1:l[k]=m[k]:=d1
   repeat refine W.g ?_
   exact⟨k+1,lessN c1,X.trans X2,rfl,rfl,rfl,c1,λj hj=>by
    by_cases e:j=k
    ·rw[e,List.getElem?_eq_getElem c1,List.getElem?_eq_getElem c2,d1]
    ·exact hl j (by omega)⟩
  ·have d1:¬l[k]=m[k]:=d1
   repeat refine W.g ?_
   exact q _ false (X.trans X2) (Iff.intro (λh=>by cases h) (λh=>absurd h (list_differ c1 c2 d1)))
 ·repeat refine W.g ?_
  exact q _ true X (Iff.intro (λ_=>list_same c0 λj hj=>hl j (by omega)) (λ_=>rfl))
theorem same2_int {h:Heap} {tm:Tm} {Q:R->Prop} {v w:CV} {l m:List Int} (fr:Fresh h) (s1:Sl h v l) (s2:Sl h w m) (hm:l.length<=1099511627776) (hm2:m.length<=1099511627776) (q:∀h' (b:Bool),Ext h h'->(b=true↔l=m)->Q (.val (.bool b) h')):W E1 (.call (.fn 47 [] []) [v,w]) tm h Q:=by
 refine W.fn (s:=fnOf Tryz.f47) rfl rfl rfl rfl ?_;by_cases c0:l.length=m.length
 case neg=>
  have c0':¬(l.length:Int)=(m.length:Int):=by omega
  repeat refine W.g ?_
  exact q _ false (Ext.refl _) (Iff.intro (λh=>by cases h) (λh=>absurd (by rw[h]) c0))
 have c0':(l.length:Int)=(m.length:Int):=by omega
 repeat refine W.g ?_
 refine W.loop (σ:=Nat) (λk tm h'=>Ext h h'/\tm.look 0=v/\tm.look 1=w/\tm.look 5= .int .i64 (k:Int)/\k<=l.length/\∀j:Nat,j<k->l[j]? =m[j]?) (λk=>l.length-k) ?_ (s:=0) ⟨Ext.refl _,rfl,rfl,rfl,Nat.zero_le _,λj hj=>by omega⟩;rintro k tm h' ⟨X,w0,w1,w5,hk,hl⟩;obtain⟨T,rfl⟩:=Tm.t3 w0 w1 w5;clear w0 w1 w5;by_cases c1:k<l.length
 ·have c2:k<m.length:=by omega
  repeat refine W.g ?_
  have ds:=DX.start (X.fr fr);try refine W.dv ?_
  refine W.dixF s1 c1 rfl rfl rfl rfl rfl rfl rfl λi1 o1 L1=> ?_;repeat (first|refine W.gd ?_|refine W.e λr_ h_ ds_ s_=> ?_)
  clear ds;have X1:=ds_.x;refine W.dixF s2 c2 rfl rfl rfl rfl rfl rfl rfl λi2 o2 L2=> ?_;repeat (first|refine W.gd ?_|refine W.e λr_ h_ ds_ s_=> ?_)
  have X2:=ds_.x;by_cases d1:l[k]=m[k]
  ·have d1:l[k]=m[k]:=d1
   repeat refine W.g ?_
   exact⟨k+1,lessN c1,X.trans X2,rfl,rfl,rfl,c1,λj hj=>by
    by_cases e:j=k
    ·rw[e,List.getElem?_eq_getElem c1,List.getElem?_eq_getElem c2,d1]
    ·exact hl j (by omega)⟩
  ·have d1:¬l[k]=m[k]:=d1
   repeat refine W.g ?_
   exact q _ false (X.trans X2) (Iff.intro (λh=>by cases h) (λh=>absurd h (list_differ c1 c2 d1)))
 ·repeat refine W.g ?_
  exact q _ true X (Iff.intro (λ_=>list_same c0 λj hj=>hl j (by omega)) (λ_=>rfl))
end
end Go.Proofs.YtmgpjfnlciapkaaGreatDoor
