/- A trip that runs every so often is two that run every twice as often: the law's own function. No condition but that the table of spaces lies where it does and memory beyond the next number is empty. -/
import Derived.Test.YtfheibkikpefkaaGreatDoorXU
import Derived.Test.YtfheibkikpefkaaGreatDoorRLc
import Derived.Test.YtfheibkikpefkaaGreatDoorEG
import Derived.Test.YtfheibkikpefkaaGreatDoorEF
import Derived.Test.YtfheibkikpefkaaGreatDoorEV
import Derived.Test.YtfheibkikpefkaaGreatDoorZQ
import Derived.Test.YtfheibkikpefkaaGreatDoorXQ7
import Derived.Test.YtfheibkikpefkaaGreatDoorZW
set_option linter.unusedVariables false
set_option linter.unusedSimpArgs false
namespace Go.Proofs.YtfheibkikpefkaaGreatDoor
open Go Go.CM Go.CM.Tt
noncomputable section
set_option maxHeartbeats 40000000
set_option maxRecDepth 100000
theorem halve_small {w:WorldD} {j:Nat} {t:TripW} (l:w.lightW4):(w.halve j t).small:=by
 obtain⟨l1,l2,l3,l4,l5,l6,l7,l8,l9,l10,l11,l12⟩:=l;have e:(w.halve j t).trips.length=w.trips.length+1:=halve_len
 have e2:(w.halve j t).names.trips.length=w.names.trips.length+1:=by
  show(w.names.trips++[zz9]).length=_;rw[List.length_append];rfl
 refine⟨by show w.names.stops.length<=_;omega,by show w.names.paths.length<=_;omega,by show w.names.doors.length<=_;omega,by show w.names.routes.length<=_;omega,by omega,by show w.names.hazards.length<=_;omega,by show w.paths.length<=_;omega,by show w.doors.length<=_;omega,by show w.routes.length<=_;omega,by omega,by show w.hazards.length<=_;omega,λr hr=> ?_⟩;have:=l12 r hr;omega
theorem halve_slim {w:WorldD} {j:Nat} {t:TripW} (l:w.lightW4):(w.halve j t).told.slim:=by
 obtain⟨l1,l2,l3,l4,l5,l6,l7,l8,l9,l10,l11,l12⟩:=l;intro r hr;obtain⟨i,hi,rfl⟩:=List.mem_mapIdx.1 hr;have hi':i<w.routes.length:=hi;obtain⟨h1,h2,h3⟩:=l12 _ (List.getElem_mem hi');exact⟨by simp only[RouteW.told,List.length_map];show w.routes[i].stops.length<=1000;omega,by show w.routes[i].rides.length<=1000;omega,by show w.routes[i].stays.length<=1000;omega⟩
theorem hasAt_iff {w:WorldD} (f:w.Fine) {j:Nat} (hj:j<w.trips.length) {no:Int} (h0:0<=no):w.hasAt j no↔no<w.cntAt j:=by
 obtain⟨t,r,jr,T⟩:=f.at hj;rw[T.has,WorldD.has_iff T.v.1 h0];unfold WorldD.cntAt;rw[T.at_,T.of_]
theorem halves_w {h:Heap} {tm:Tm} {cs:List CV} {w:WorldD} (n0:Int) (r:Rp.R h cs w) (rh:RH h) (fr:Fresh h):W E1 (.call (.fn 3 [] []) [.agg cs,.int .i64 n0]) tm h (λr=>∃h',r= .val (.bool true) h'):=by
 have r0:=r;obtain⟨v1,v2,v3,v4,v5,v6,v7,v8,v9,v10,v11,rfl,s1,s2,s3,s4,s5,s6,s7,s8,s9,s10,s11⟩:=r;refine W.fn (s:=fnOf Tryz.f3) rfl rfl rfl rfl ?_;repeat (refine W.seq ?_)
 refine W.region ?_;refine W.box rfl rfl rfl λH1 X1 n1 g1 L1=> ?_;repeat (first|refine W.g ?_|refine W.m λh_ X_ n_ g_ L_=> ?_|refine W.n λh_ X_ n_ g_ S_=> ?_)
 refine W.call rfl rfl rfl (W.known rfl (rh.ext X1).1 ?_);repeat (first|refine W.g ?_|refine W.m λh_ X_ n_ g_ L_=> ?_|refine W.n λh_ X_ n_ g_ S_=> ?_)
 refine W.call rfl rfl rfl (light_w (Rp.ext X1 r0) (X1.fr fr) λH2 b X2 hb=> ?_);have L1:=L1.ext X2;have Y2:=X1.trans X2;refine W.k3 1 2 17 λT=> ?_;cases b
 ·repeat (first|refine W.g ?_|refine W.m λh_ X_ n_ g_ L_=> ?_|refine W.n λh_ X_ n_ g_ S_=> ?_)
  exact⟨_,rfl⟩
 have lx:=hb.1 rfl;have lw:=lx.1;have sm:=light4_small lw;have sl:w.whole->w.told.slim:=λ_=>light4_told lw;clear hb;repeat (first|refine W.g ?_|refine W.m λh_ X_ n_ g_ L_=> ?_|refine W.n λh_ X_ n_ g_ S_=> ?_)
 refine W.call rfl rfl rfl (rcheck_w (Rp.ext Y2 r0) (Y2.fr fr) sm sl λH3 X3=> ?_);obtain⟨c,hc⟩:∃c,c=w.check:=⟨_,rfl⟩;rw[<-hc];have L1:=L1.ext X3;have Y3:=Y2.trans X3;refine W.k4 1 2 19 21 λT=> ?_;by_cases c0:¬c.err=0
 ·repeat (first|refine W.g ?_|refine W.m λh_ X_ n_ g_ L_=> ?_|refine W.n λh_ X_ n_ g_ S_=> ?_)
  exact⟨_,rfl⟩
 have c0:c.err=0:=Decidable.not_not.1 c0;have c1:w.check.err=0:=by rw[<-hc];exact c0
 by_cases d0:w.trips.length=0
 ·repeat (first|refine W.g ?_|refine W.m λh_ X_ n_ g_ L_=> ?_|refine W.n λh_ X_ n_ g_ S_=> ?_)
  exact⟨_,rfl⟩
 have hl:w.trips.length<=40:=lw.2.2.2.2.2.2.2.2.2.1;have f:=WorldD.fine c1;repeat (first|refine W.g ?_|refine W.m λh_ X_ n_ g_ L_=> ?_|refine W.n λh_ X_ n_ g_ S_=> ?_)
 refine W.call rfl rfl rfl (pick_w n0 w.trips.length (by omega) (by omega) λj hj=> ?_);obtain⟨t,ro,jr,TT⟩:=f.at hj;obtain⟨⟨hj',ht⟩,⟨hjr,hro⟩,er,tf,tv,tu,fu,tame,tlast,hst,ta,to⟩:=id TT;refine W.k2 2 35 λT=> ?_;repeat (first|refine W.g ?_|refine W.m λh_ X_ n_ g_ L_=> ?_|refine W.n λh_ X_ n_ g_ S_=> ?_)
 refine W.ixF s10 hj rfl rfl rfl rfl rfl rfl rfl λi1 o1 M1=> ?_;replace M1:=show LocE h i1 o1 [.int .i64 (jr:Int),.int .i64 t.frm,.int .i64 t.evr,.int .i64 t.untl]from by rw[<-er,<-ht];exact M1
 have f1:=tf.1;have f2:=tf.2;have v1':=tv.1;have v2':=tv.2;have u2:=tu.2;by_cases q1:t.evr=0
 ·repeat (first|refine W.g ?_|refine W.m λh_ X_ n_ g_ L_=> ?_|refine W.n λh_ X_ n_ g_ S_=> ?_)
  exact⟨_,rfl⟩
 by_cases q2:549755813888<t.evr
 ·repeat (first|refine W.g ?_|refine W.m λh_ X_ n_ g_ L_=> ?_|refine W.n λh_ X_ n_ g_ S_=> ?_)
  exact⟨_,rfl⟩
 by_cases q3:t.untl<t.frm+t.evr
 ·repeat (first|refine W.g ?_|refine W.m λh_ X_ n_ g_ L_=> ?_|refine W.n λh_ X_ n_ g_ S_=> ?_)
  exact⟨_,rfl⟩
 have m1: -9223372036854775808<=2*t.evr:=by omega
 have m2:2*t.evr<=9223372036854775807:=by omega
 repeat (first|refine W.g ?_|refine W.m λh_ X_ n_ g_ L_=> ?_|refine W.n λh_ X_ n_ g_ S_=> ?_)
 have L5:LocE h_ H3.next 0 [.int .i64 (jr:Int),.int .i64 t.frm,.int .i64 t.evr,.int .i64 t.untl]:=L_;have L1:=L1.ext X_;have Y5:=Y3.trans X_;obtain⟨b5,hb5⟩:∃b,b=H3.next:=⟨_,rfl⟩;obtain⟨K5,hK5⟩:∃K,K=h_:=⟨_,rfl⟩;rw[<-hb5,<-hK5]at L5;rw[<-hK5]at L1 Y5;rw[<-hK5];simp only[<-hb5];clear L_ g_ X_ n_ M1 hb5 hK5;have L1a:=L1;have L5a:=L5;refine W.call rfl rfl rfl (ownWorld_w (Rp.ext Y5 r0) (Y5.fr fr) sm λH6 hq m1' m2' m3' m4' m5' m6' vp vd vr vt vz X6 OW=> ?_);have L1:=L1.ext X6;have L5:=L5.ext X6;have Y6:=Y5.trans X6;refine W.k4 1 2 5 60 λT=> ?_;repeat (first|refine W.g ?_|refine W.m λh_ X_ n_ g_ L_=> ?_|refine W.n λh_ X_ n_ g_ S_=> ?_)
 have nX6:=X6.next;have OB:OwnWB h_ K5.next H6.next hq m1' m2' m3' m4' m5' m6' vp vd vr vt vz w:=OW.box X_ nX6 (Nat.le_refl _) (by omega);have L1:=L1.ext X_;have L5:=L5.ext X_;have Y7:=Y6.trans X_;have bl:=OB.lt;obtain⟨b6,hb6⟩:∃b,b=H6.next:=⟨_,rfl⟩;obtain⟨K7,hK7⟩:∃K,K=h_:=⟨_,rfl⟩;rw[<-hb6,<-hK7]at OB g_ bl;rw[<-hK7]at L1 L5 Y7;rw[<-hK7];simp only[<-hb6];have X57:Ext K5 K7:=by rw[hK7];exact X6.trans X_
 clear L_ X_ n_ hb6 hK7 OW;obtain⟨bt,ct,xt,e1,hi1,hi2,hi3,hi4,hi5⟩:=OwnR.at OB.own_trips.1 (j:=j) (by rw[List.length_map];exact hj);rw[List.length_map]at e1;have hel:(w.trips.map (Flat.enc:TripW->List CV))[j]? =some (Flat.enc w.trips[j]):=by rw[List.getElem?_map,List.getElem?_eq_getElem hj];rfl
 have nbt:bt≠b6:=λe=>OB.own_trips.2 (by rw[hi3,e]);refine W.ix rfl rfl e1 rfl rfl rfl rfl (place_of (j:=j) rfl hj) ?_;repeat (first|refine W.g ?_|refine W.m λh_ X_ n_ g_ L_=> ?_|refine W.n λh_ X_ n_ g_ S_=> ?_)
 refine W.stn (vs:=[.int .i64 (2*t.evr)]) (cs':=((w.trips.map (Flat.enc:TripW->List CV)).set j ((Flat.enc w.trips[j]).set 2 (.int .i64 (2*t.evr)))).flatten) rfl rfl rfl rfl rfl rfl hi4 (flat_setAt hi5 (by decide) hel) λM1 nM1 gM1 kM1=> ?_
 have eset:(w.trips.map (Flat.enc:TripW->List CV)).set j ((Flat.enc w.trips[j]).set 2 (.int .i64 (2*t.evr)))=(w.trips.set j {t with evr:=2*t.evr}).map Flat.enc:=by
  rw[List.map_set,ht];rfl
 have OT:OwnR M1 K5.next 4 vt ((w.trips.set j {t with evr:=2*t.evr}).map Flat.enc):=by
  rw[<-eset];exact OwnR.set OB.own_trips.1 (by rw[List.length_map];exact hj) (by rw[List.length_set];exact hi5 _ (List.mem_of_getElem? hel)) nM1 hi3 gM1
 have OB1:=OB.trips (h':=M1) (l:=w.trips.set j {t with evr:=2*t.evr}) (u:=vt) (by omega) (λk hk ho=>kM1 k (by
  rcases ho with ho|ho
  ·omega
  ·exact λe=>ho (by rw[hi3,e]))) OT (.inl rfl)
 have g6:=(kM1 b6 (Ne.symm nbt)).trans g_;have X5M:Ext K5 M1:=Ext.store X57 nM1 kM1 (by omega) (by omega);repeat (first|refine W.g ?_|refine W.m λh_ X_ n_ g_ L_=> ?_|refine W.n λh_ X_ n_ g_ S_=> ?_)
 have L6:LocE M1 b6 0 [hq,m1',m2',m3',m4',m5',m6',vp,vd,vr,vt,vz]:=⟨_,_,g6,by omega,rfl⟩;clear L1 L5 g_ hi4 hi5 hel;have L1:=L1a.ext X5M;have L5:=L5a.ext X5M;have hlt:w.trips.length<=40:=hl;repeat (first|refine W.g ?_|refine W.m λh_ X_ n_ g_ L_=> ?_|refine W.n λh_ X_ n_ g_ S_=> ?_)
 have S_:SlG h_ 4 (.slice (some (M1.next,0)) 1 1 0) [Flat.enc (⟨t.route,t.frm+t.evr,2*t.evr,t.untl⟩:TripW)]:=by
  have e:(Flat.enc (⟨t.route,t.frm+t.evr,2*t.evr,t.untl⟩:TripW):List CV)=[.int .i64 (jr:Int),.int .i64 (t.frm+t.evr),.int .i64 (2*t.evr),.int .i64 t.untl]:=by rw[<-er];rfl
  rw[e];exact S_
 refine W.apR2 (H:=K5) (z:=4) (X5M.trans X_) (OB1.own_trips.1.ext X_) S_ (by simp) rfl rfl rfl rfl rfl rfl rfl rfl rfl rfl rfl rfl (by
  rw[List.length_map,List.length_set];show(_+1)*32<=_;omega) λvt2 D1 XD OD kD nD iD=> ?_
 have bt6:idOf vt≠[b6]:=λe=>nbt (by rw[hi3]at e;exact(List.cons.inj e).1);have OB2:=(OB1.ext X_).trips (h':=D1) (l:=w.trips.set j {t with evr:=2*t.evr}++[⟨t.route,t.frm+t.evr,2*t.evr,t.untl⟩]) (u:=vt2) (by omega) (λk hk ho=>ho.elim (λho=>(XD.old k ho).trans ((X5M.trans X_).old k ho).symm) (kD k hk)) (by rw[List.map_append];exact OD) (.inr ⟨_,iD,Nat.le_refl _⟩)
 have g6D:=(kD b6 (by omega) bt6).trans ((X_.old b6 (by omega)).trans g6);obtain⟨pv,nv,cv,xv,ev⟩:=OD.form;have hcells:vt2.cells=some [vt2]:=by rw[ev];rfl
 clear L6;repeat (first|refine W.g ?_|refine W.m λh_ X_ n_ g_ L_=> ?_|refine W.n λh_ X_ n_ g_ S_=> ?_)
 refine W.stn (vs:=[vt2]) (cs':=[hq,m1',m2',m3',m4',m5',m6',vp,vd,vr,vt2,vz]) rfl rfl rfl hcells rfl rfl g6D rfl λM2 nM2 gM2 kM2=> ?_;have OB3:=OB2.put nM2 kM2;have X5M2:Ext K5 M2:=Ext.store XD nM2 kM2 (by omega) (by omega);have nX_:=X_.next;have L6:LocE M2 b6 0 [hq,m1',m2',m3',m4',m5',m6',vp,vd,vr,vt2,vz]:=⟨_,_,gM2,by omega,rfl⟩;have La:LocE M2 b6 (0+1) [m1',m2',m3',m4',m5',m6']:=LocE.sub (k:=1) (m:=6) L6 rfl;have lnt:w.names.trips.length<=40:=lw.2.2.2.2.1;clear L1 L5 OB2 OB1 OB g6D hcells OT X_ XD kD S_;repeat (first|refine W.g ?_|refine W.m λh_ X_ n_ g_ L_=> ?_|refine W.n λh_ X_ n_ g_ S_=> ?_)
 have S_:SlG h_ 1 (.slice (some (M2.next,0)) 1 1 0) [Flat.enc zz9]:=S_
 refine W.apR2 (H:=K5) (z:=1) (X5M2.trans X_) (OB3.own_ntrips.1.ext X_) S_ (by simp) rfl rfl rfl rfl rfl rfl rfl rfl rfl rfl rfl rfl (by
  rw[List.length_map];show(w.names.trips.length+1)*16<=_;omega) λvn D2 XD2 OD2 kD2 nD2 iD2=> ?_
 have OB4:=(OB3.ext X_).ntrips (h':=D2) (l:=w.names.trips++[zz9]) (u:=vn) (by omega) (λk hk ho=>ho.elim (λho=>(XD2.old k ho).trans ((X5M2.trans X_).old k ho).symm) (kD2 k hk)) (by rw[List.map_append];exact OD2) (.inr ⟨_,iD2,Nat.le_refl _⟩);have g6E:=(kD2 b6 (by omega) OB3.own_ntrips.2).trans ((X_.old b6 (by omega)).trans gM2);obtain⟨pv2,nv2,cv2,xv2,ev2⟩:=OD2.form;have hcells:vn.cells=some [vn]:=by rw[ev2];rfl
 clear L6 La;repeat (first|refine W.g ?_|refine W.m λh_ X_ n_ g_ L_=> ?_|refine W.n λh_ X_ n_ g_ S_=> ?_)
 refine W.stn (vs:=[vn]) (cs':=[hq,m1',m2',m3',m4',vn,m6',vp,vd,vr,vt2,vz]) rfl rfl rfl hcells rfl rfl g6E rfl λM3 nM3 gM3 kM3=> ?_;have OB5:=OB4.put nM3 kM3;have X5M3:Ext K5 M3:=Ext.store XD2 nM3 kM3 (by omega) (by omega);have rv0:Rp.R M3 [hq,m1',m2',m3',m4',vn,m6',vp,vd,vr,vt2,vz] (w.halve j t):=OB5.rp;have nX2:=X_.next;have L6:LocE M3 b6 0 [hq,m1',m2',m3',m4',vn,m6',vp,vd,vr,vt2,vz]:=⟨_,_,gM3,by omega,rfl⟩;have L1:=L1a.ext X5M3;have L5:=L5a.ext X5M3;have Y8:Ext h M3:=Y5.trans X5M3;clear OB5 OB4 OB3 g6E hcells X_ XD2 kD2 S_ kM3 OD OD2;refine W.k4 1 2 5 6 λT=> ?_;repeat (first|refine W.g ?_|refine W.m λh_ X_ n_ g_ L_=> ?_|refine W.n λh_ X_ n_ g_ S_=> ?_)
 have smV:=halve_small (j:=j) (t:=t) lw;have slV:(w.halve j t).whole->(w.halve j t).told.slim:=λ_=>halve_slim lw;refine W.call rfl rfl rfl (rcheck_w rv0 (Y8.fr fr) smV slV λH9 X9=> ?_);obtain⟨cv,hcv⟩:∃c,c=(w.halve j t).check:=⟨_,rfl⟩;rw[<-hcv];have L1:=L1.ext X9;have L5:=L5.ext X9;have L6:=L6.ext X9;have Y9:=Y8.trans X9;have rv9:=Rp.ext X9 rv0;refine W.k5 1 2 5 6 95 λT=> ?_;by_cases e0:¬cv.err=0
 ·repeat (first|refine W.g ?_|refine W.m λh_ X_ n_ g_ L_=> ?_|refine W.n λh_ X_ n_ g_ S_=> ?_)
  exact⟨_,rfl⟩
 have e0:cv.err=0:=Decidable.not_not.1 e0;have cv1:(w.halve j t).check.err=0:=by rw[<-hcv];exact e0
 have ev0:0<t.evr:=by omega
 have lv:(w.halve j t).trips.length=w.trips.length+1:=halve_len;repeat (first|refine W.g ?_|refine W.m λh_ X_ n_ g_ L_=> ?_|refine W.n λh_ X_ n_ g_ S_=> ?_)
 refine W.call rfl rfl rfl (Count_w (Rp.ext Y9 r0) (rh.ext Y9) (Y9.fr fr) sm sl (j:Int) λHA XA=> ?_);rw[WorldD.countX_there c1 hj];have cb:=cntAt_bound f hj;obtain⟨n,hn⟩:∃n:Nat,w.cntAt j=(n:Int):=⟨(w.cntAt j).toNat,by omega⟩;have hcnt:w.cntAt j=w.cnt t ro:=by unfold WorldD.cntAt;rw[ta,to]
 have hiff:∀no:Int,0<=no->(w.hasAt j no↔no<(n:Int)):=λno h0=>by
  rw[TT.has,WorldD.has_iff tv.1 h0,<-hcnt,hn]
 rw[hn];have L1:=L1.ext XA;have L5:=L5.ext XA;have L6:=L6.ext XA;have YA:=Y9.trans XA;have rvA:=Rp.ext XA rv9;refine W.k5 1 2 5 6 100 λT=> ?_;by_cases e1:600<n
 ·repeat (first|refine W.g ?_|refine W.m λh_ X_ n_ g_ L_=> ?_|refine W.n λh_ X_ n_ g_ S_=> ?_)
  exact⟨_,rfl⟩
 repeat (first|refine W.g ?_|refine W.m λh_ X_ n_ g_ L_=> ?_|refine W.n λh_ X_ n_ g_ S_=> ?_)
 refine W.call rfl rfl rfl (Count_w rvA (rh.ext YA) (YA.fr fr) smV slV (j:Int) λHB XB=> ?_);rw[WorldD.countX_there cv1 (by omega),halve_cnt hj ta ev0,hn];have L1:=L1.ext XB;have L6:=L6.ext XB;have YB:=YA.trans XB;have rvB:=Rp.ext XB rvA
 have d1:IntKind.i64.wrap (((n:Int)+1).tdiv 2)=((n:Int)+1)/2:=by
  rw[Int.tdiv_eq_ediv_of_nonneg (by omega),IntWalk.i64_in _ (by omega)]
 have d2:IntKind.i64.wrap ((n:Int).tdiv 2)=(n:Int)/2:=by
  rw[Int.tdiv_eq_ediv_of_nonneg (by omega),IntWalk.i64_in _ (by omega)]
 refine W.k6 1 2 6 7 103 106 λT=> ?_;repeat (first|refine W.g ?_|refine W.m λh_ X_ n_ g_ L_=> ?_|refine W.n λh_ X_ n_ g_ S_=> ?_)
 rw[d1];repeat (first|refine W.g ?_|refine W.m λh_ X_ n_ g_ L_=> ?_|refine W.n λh_ X_ n_ g_ S_=> ?_)
 refine W.call rfl rfl rfl (Count_w rvB (rh.ext YB) (YB.fr fr) smV slV ((w.trips.length:Nat):Int) λHC XC=> ?_);rw[WorldD.countX_there cv1 (by omega),halve_cnt2 ta ev0,hn];have L1:=L1.ext XC;have L6:=L6.ext XC;have YC:=YB.trans XC;have rvC:=Rp.ext XC rvB;refine W.k6 1 2 6 7 112 117 λT=> ?_;repeat (first|refine W.g ?_|refine W.m λh_ X_ n_ g_ L_=> ?_|refine W.n λh_ X_ n_ g_ S_=> ?_)
 rw[d2];repeat (first|refine W.g ?_|refine W.m λh_ X_ n_ g_ L_=> ?_|refine W.n λh_ X_ n_ g_ S_=> ?_)
 have fv:=WorldD.fine cv1;obtain⟨tl,_,_⟩:=id tame;refine W.k5 1 2 6 7 8 λT=> ?_;refine W.loop (σ:=Nat) (λi tm h'=>Ext HC h'/\tm.look 1= .int .i64 (j:Int)/\tm.look 2= .ptr (some (h.next,0))/\tm.look 6= .ptr (some (b6,0))/\tm.look 7= .int .i64 (n:Int)/\tm.look 8= .int .i64 (i:Int)/\i<=n) (λi=>n-i) ?_ (s:=0) ⟨Ext.refl _,rfl,rfl,rfl,rfl,rfl,Nat.zero_le _⟩;rintro i tm h' ⟨X,w1,w2,w6,w7,w8,hi⟩;obtain⟨T,rfl⟩:=Tm.t5 w1 w2 w6 w7 w8;clear w1 w2 w6 w7 w8;by_cases p1:i<n
 ·have d3:(i:Int).tmod 2=((i%2:Nat):Int):=by
    rw[Int.tmod_eq_emod_of_nonneg (by omega)];omega
  have d4:IntKind.i64.wrap ((i:Int).tdiv 2)=((i/2:Nat):Int):=by
   rw[Int.tdiv_eq_ediv_of_nonneg (by omega),IntWalk.i64_in _ (by omega)];omega
  have hA:w.hasAt j (i:Int):=(hiff _ (by omega)).2 (by omega);repeat (first|refine W.g ?_|refine W.m λh_ X_ n_ g_ L_=> ?_|refine W.n λh_ X_ n_ g_ S_=> ?_)
  refine W.call rfl rfl rfl (One_w (Rp.ext (YC.trans X) r0) (rh.ext (YC.trans X)) ((YC.trans X).fr fr) sm sl (j:Int) (i:Int) λHD t0 k0 wA wD a0 d0 XD OD1 he=> ?_);rw[WorldD.oneX_there c1 hj hA]at he ⊢;have he:(⟨t0,k0,a0,d0⟩:RunD)=w.runAt j (i:Int):=he;refine W.k6 1 2 6 7 8 133 λT=> ?_;repeat (first|refine W.g ?_|refine W.m λh_ X_ n_ g_ L_=> ?_|refine W.n λh_ X_ n_ g_ S_=> ?_)
  have L9:LocE h_ HD.next 0 [.int .i64 t0,.int .i64 k0,wA,wD]:=L_;have XD2:=X_;rw[d3];by_cases par:i%2=1
  ·repeat (first|refine W.g ?_|refine W.m λh_ X_ n_ g_ L_=> ?_|refine W.n λh_ X_ n_ g_ S_=> ?_)
   rw[d4];have hB:(w.halve j t).hasAt w.trips.length (((i/2:Nat):Int)):=(hasAt_iff fv (by omega) (by omega)).2 (by rw[halve_cnt2 ta ev0,hn];omega);refine W.call rfl rfl rfl (One_w (Rp.ext (X.trans (XD.trans X_)) rvC) (rh.ext ((YC.trans X).trans (XD.trans X_))) (((YC.trans X).trans (XD.trans X_)).fr fr) smV slV (((w.trips.length:Nat):Int):Int) (((i/2:Nat):Int)) λHE t1 k1 uA uD b0 c0 XE OE hf=> ?_);rw[WorldD.oneX_there cv1 (by omega) hB]at hf ⊢;have hf:(⟨t1,k1,b0,c0⟩:RunD)=(w.halve j t).runAt w.trips.length ((i/2:Nat):Int):=hf;have hr:=halve_run2 (j:=j) (t:=t) ta ((i/2:Nat):Int);have eb:b0=a0:=by rw[show b0=((w.halve j t).runAt w.trips.length ((i/2:Nat):Int)).arr from congrArg RunD.arr hf,hr.1,show a0=(w.runAt j (i:Int)).arr from congrArg RunD.arr he,show(2*((i/2:Nat):Int)+1)=(i:Int) by omega]
   have ec:c0=d0:=by rw[show c0=((w.halve j t).runAt w.trips.length ((i/2:Nat):Int)).dep from congrArg RunD.dep hf,hr.2,show d0=(w.runAt j (i:Int)).dep from congrArg RunD.dep he,show(2*((i/2:Nat):Int)+1)=(i:Int) by omega]
   subst eb ec;refine W.k8 1 2 6 7 8 9 10 148 λT=> ?_;have L9:=L9.ext XE;repeat (first|refine W.g ?_|refine W.m λh_ X_ n_ g_ L_=> ?_|refine W.n λh_ X_ n_ g_ S_=> ?_)
   have L12:LocE h_ HE.next 0 [.int .i64 t1,.int .i64 k1,uA,uD]:=L_;have L9:=L9.ext X_;have XF:=((X.trans (XD.trans XD2)).trans XE).trans X_;have gA:Sl h_ wA b0:=((OD1.o (1,wA,b0.map Flat.enc) (by simp)).toSl (α:=Int)).ext ((XD2.trans XE).trans X_);have gD:Sl h_ wD c0:=((OD1.o (1,wD,c0.map Flat.enc) (by simp)).toSl (α:=Int)).ext ((XD2.trans XE).trans X_);have gA2:Sl h_ uA b0:=((OE.o (1,uA,b0.map Flat.enc) (by simp)).toSl (α:=Int)).ext X_;have gD2:Sl h_ uD c0:=((OE.o (1,uD,c0.map Flat.enc) (by simp)).toSl (α:=Int)).ext X_
   have la:b0.length<=1099511627776:=by
    rw[show b0=(w.runAt j (i:Int)).arr from congrArg RunD.arr he,TT.run,RouteW.arrs_len];omega
   have lc:c0.length<=1099511627776:=by
    rw[show c0=(w.runAt j (i:Int)).dep from congrArg RunD.dep he,TT.run,RouteW.deps_len];omega
   refine W.call rfl rfl rfl (same2_int ((YC.trans XF).fr fr) gA gA2 la la λHF b XF2 hb=> ?_);have hb:=hb.2 rfl;subst hb;refine W.k9 1 2 6 7 8 9 12 157 162 λT=> ?_;have L9:=L9.ext XF2;have L12:=L12.ext XF2;repeat (first|refine W.g ?_|refine W.m λh_ X_ n_ g_ L_=> ?_|refine W.n λh_ X_ n_ g_ S_=> ?_)
   refine W.call rfl rfl rfl (same2_int ((YC.trans (XF.trans XF2)).fr fr) (gD.ext XF2) (gD2.ext XF2) lc lc λHG b XG hb=> ?_);have hb:=hb.2 rfl;subst hb;repeat (first|refine W.g ?_|refine W.m λh_ X_ n_ g_ L_=> ?_|refine W.n λh_ X_ n_ g_ S_=> ?_)
   exact⟨i+1,lessN p1,(XF.trans XF2).trans XG,rfl,rfl,rfl,rfl,rfl,p1⟩
  ·repeat (first|refine W.g ?_|refine W.m λh_ X_ n_ g_ L_=> ?_|refine W.n λh_ X_ n_ g_ S_=> ?_)
   rw[d4];have hB:(w.halve j t).hasAt j (((i/2:Nat):Int)):=(hasAt_iff fv (by omega) (by omega)).2 (by rw[halve_cnt hj ta ev0,hn];omega);refine W.call rfl rfl rfl (One_w (Rp.ext (X.trans (XD.trans X_)) rvC) (rh.ext ((YC.trans X).trans (XD.trans X_))) (((YC.trans X).trans (XD.trans X_)).fr fr) smV slV (((j:Nat):Int):Int) (((i/2:Nat):Int)) λHE t1 k1 uA uD b0 c0 XE OE hf=> ?_);rw[WorldD.oneX_there cv1 (by omega) hB]at hf ⊢;have hf:(⟨t1,k1,b0,c0⟩:RunD)=(w.halve j t).runAt j ((i/2:Nat):Int):=hf;have hr:=halve_run hj ta ((i/2:Nat):Int);have eb:b0=a0:=by rw[show b0=((w.halve j t).runAt j ((i/2:Nat):Int)).arr from congrArg RunD.arr hf,hr.1,show a0=(w.runAt j (i:Int)).arr from congrArg RunD.arr he,show(2*((i/2:Nat):Int))=(i:Int) by omega]
   have ec:c0=d0:=by rw[show c0=((w.halve j t).runAt j ((i/2:Nat):Int)).dep from congrArg RunD.dep hf,hr.2,show d0=(w.runAt j (i:Int)).dep from congrArg RunD.dep he,show(2*((i/2:Nat):Int))=(i:Int) by omega]
   subst eb ec;refine W.k8 1 2 6 7 8 9 10 148 λT=> ?_;have L9:=L9.ext XE;repeat (first|refine W.g ?_|refine W.m λh_ X_ n_ g_ L_=> ?_|refine W.n λh_ X_ n_ g_ S_=> ?_)
   have L12:LocE h_ HE.next 0 [.int .i64 t1,.int .i64 k1,uA,uD]:=L_;have L9:=L9.ext X_;have XF:=((X.trans (XD.trans XD2)).trans XE).trans X_;have gA:Sl h_ wA b0:=((OD1.o (1,wA,b0.map Flat.enc) (by simp)).toSl (α:=Int)).ext ((XD2.trans XE).trans X_);have gD:Sl h_ wD c0:=((OD1.o (1,wD,c0.map Flat.enc) (by simp)).toSl (α:=Int)).ext ((XD2.trans XE).trans X_);have gA2:Sl h_ uA b0:=((OE.o (1,uA,b0.map Flat.enc) (by simp)).toSl (α:=Int)).ext X_;have gD2:Sl h_ uD c0:=((OE.o (1,uD,c0.map Flat.enc) (by simp)).toSl (α:=Int)).ext X_
   have la:b0.length<=1099511627776:=by
    rw[show b0=(w.runAt j (i:Int)).arr from congrArg RunD.arr he,TT.run,RouteW.arrs_len];omega
   have lc:c0.length<=1099511627776:=by
    rw[show c0=(w.runAt j (i:Int)).dep from congrArg RunD.dep he,TT.run,RouteW.deps_len];omega
   refine W.call rfl rfl rfl (same2_int ((YC.trans XF).fr fr) gA gA2 la la λHF b XF2 hb=> ?_);have hb:=hb.2 rfl;subst hb;refine W.k9 1 2 6 7 8 9 12 157 162 λT=> ?_;have L9:=L9.ext XF2;have L12:=L12.ext XF2;repeat (first|refine W.g ?_|refine W.m λh_ X_ n_ g_ L_=> ?_|refine W.n λh_ X_ n_ g_ S_=> ?_)
   refine W.call rfl rfl rfl (same2_int ((YC.trans (XF.trans XF2)).fr fr) (gD.ext XF2) (gD2.ext XF2) lc lc λHG b XG hb=> ?_);have hb:=hb.2 rfl;subst hb;repeat (first|refine W.g ?_|refine W.m λh_ X_ n_ g_ L_=> ?_|refine W.n λh_ X_ n_ g_ S_=> ?_)
   exact⟨i+1,lessN p1,(XF.trans XF2).trans XG,rfl,rfl,rfl,rfl,rfl,p1⟩
 ·repeat (first|refine W.g ?_|refine W.m λh_ X_ n_ g_ L_=> ?_|refine W.n λh_ X_ n_ g_ S_=> ?_)
  exact⟨_,rfl⟩
end
end Go.Proofs.YtfheibkikpefkaaGreatDoor
