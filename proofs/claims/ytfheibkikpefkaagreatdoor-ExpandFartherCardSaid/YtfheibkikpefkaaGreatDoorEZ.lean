/- A horizon that is farther takes no run away: the law's own function. No condition but that the table of spaces lies where it does and memory beyond the next number is empty. -/
import Derived.Test.YtfheibkikpefkaaGreatDoorXU
import Derived.Test.YtfheibkikpefkaaGreatDoorXG2
import Derived.Test.YtfheibkikpefkaaGreatDoorZQ
import Derived.Test.YtfheibkikpefkaaGreatDoorZF
import Derived.Test.YtfheibkikpefkaaGreatDoorKnW
set_option linter.unusedVariables false
set_option linter.unusedSimpArgs false
namespace Go.Proofs.YtfheibkikpefkaaGreatDoor
open Go Go.CM Go.CM.Tt
noncomputable section
set_option maxHeartbeats 40000000
set_option maxRecDepth 100000
theorem far_small {w:WorldD} {b:Int} (sm:w.small):(w.far b).small:=sm
theorem far_light {w:WorldD} {b:Int} (l:w.lightW4):(w.far b).lightW4:=l
theorem farther_w {h:Heap} {tm:Tm} {cs:List CV} {w:WorldD} (b:Int) (r:Rp.R h cs w) (rh:RH h) (fr:Fresh h):W E1 (.call (.fn 5 [] []) [.agg cs,.int .i64 b]) tm h (λr=>∃h',r= .val (.bool true) h'):=by
 have r0:=r;obtain⟨v1,v2,v3,v4,v5,v6,v7,v8,v9,v10,v11,rfl,s1,s2,s3,s4,s5,s6,s7,s8,s9,s10,s11⟩:=r;refine W.fn (s:=fnOf Tryz.f5) rfl rfl rfl rfl ?_;repeat (refine W.seq ?_)
 refine W.region ?_;refine W.box rfl rfl rfl λH1 X1 n1 g1 L1=> ?_;repeat (first|refine W.g ?_|refine W.m λh_ X_ n_ g_ L_=> ?_|refine W.n λh_ X_ n_ g_ S_=> ?_)
 refine W.call rfl rfl rfl (W.known rfl (rh.ext X1).1 ?_);refine W.k3 1 2 12 λT=> ?_;by_cases q1:b<0
 ·repeat (first|refine W.g ?_|refine W.m λh_ X_ n_ g_ L_=> ?_|refine W.n λh_ X_ n_ g_ S_=> ?_)
  exact⟨_,rfl⟩
 by_cases q2:1000<b
 ·repeat (first|refine W.g ?_|refine W.m λh_ X_ n_ g_ L_=> ?_|refine W.n λh_ X_ n_ g_ S_=> ?_)
  exact⟨_,rfl⟩
 repeat (first|refine W.g ?_|refine W.m λh_ X_ n_ g_ L_=> ?_|refine W.n λh_ X_ n_ g_ S_=> ?_)
 refine W.call rfl rfl rfl (light_w (Rp.ext X1 r0) (X1.fr fr) λH2 bb X2 hb=> ?_);have L1:=L1.ext X2;have Y2:=X1.trans X2;refine W.k4 1 2 20 22 λT=> ?_;cases bb
 ·repeat (first|refine W.g ?_|refine W.m λh_ X_ n_ g_ L_=> ?_|refine W.n λh_ X_ n_ g_ S_=> ?_)
  exact⟨_,rfl⟩
 have lx:=hb.1 rfl;have lw:=lx.1;have sm:=light4_small lw;have sl:w.whole->w.told.slim:=λ_=>light4_told lw;clear hb;repeat (first|refine W.g ?_|refine W.m λh_ X_ n_ g_ L_=> ?_|refine W.n λh_ X_ n_ g_ S_=> ?_)
 refine W.call rfl rfl rfl (rcheck_w (Rp.ext Y2 r0) (Y2.fr fr) sm sl λH3 X3=> ?_);obtain⟨c,hc⟩:∃c,c=w.check:=⟨_,rfl⟩;rw[<-hc];have L1:=L1.ext X3;have Y3:=Y2.trans X3;refine W.k4 1 2 25 27 λT=> ?_;by_cases c0:¬c.err=0
 ·repeat (first|refine W.g ?_|refine W.m λh_ X_ n_ g_ L_=> ?_|refine W.n λh_ X_ n_ g_ S_=> ?_)
  exact⟨_,rfl⟩
 have c0:c.err=0:=Decidable.not_not.1 c0;have c1:w.check.err=0:=by rw[<-hc];exact c0
 have f:=WorldD.fine c1;have z0:=f.hz.1;have z1:=f.hz.2;repeat (first|refine W.g ?_|refine W.m λh_ X_ n_ g_ L_=> ?_|refine W.n λh_ X_ n_ g_ S_=> ?_)
 refine W.call rfl rfl rfl (ownWorld_w (Rp.ext Y3 r0) (Y3.fr fr) sm λH6 hq m1 m2 m3 m4 m5 m6 vp vd vr vt vz X6 OW=> ?_);have rw6:=OW.rp;obtain rfl:=OW.hz;clear OW;have L1a:=L1.ext X6;have Y6:=Y3.trans X6;refine W.k3 1 2 32 λT=> ?_;clear L1;repeat (first|refine W.g ?_|refine W.m λh_ X_ n_ g_ L_=> ?_|refine W.n λh_ X_ n_ g_ S_=> ?_)
 obtain⟨b5,hb5⟩:∃b,b=H6.next:=⟨_,rfl⟩;obtain⟨K,hK⟩:∃K,K=h_:=⟨_,rfl⟩;have nH6:=Y6.next;rw[<-hb5,<-hK]at g_;rw[<-hK]at n_ X_;rw[<-hK,<-hb5];clear L_ hK;have g5:K.get b5=some (.cells [.int .i64 w.hz,m1,m2,m3,m4,m5,m6,vp,vd,vr,vt,vz] false):=g_;clear g_;refine W.stn (vs:=[.int .i64 (w.hz+b)]) (cs':=[.int .i64 (w.hz+b),m1,m2,m3,m4,m5,m6,vp,vd,vr,vt,vz]) rfl rfl rfl rfl rfl rfl g5 rfl λM nM gM kM=> ?_;have X6M:Ext H6 M:=Ext.store X_ nM kM (by omega) (by omega)
 have rv:Rp.R M [.int .i64 (w.hz+b),m1,m2,m3,m4,m5,m6,vp,vd,vr,vt,vz] (w.far b):=by
  obtain⟨a1,a2,a3,a4,a5,a6,a7,a8,a9,a10,a11,e,t1,t2,t3,t4,t5,t6,t7,t8,t9,t10,t11⟩:=Rp.ext X6M rw6
  injection e with _ e
  injection e with e1 e
  injection e with e2 e
  injection e with e3 e
  injection e with e4 e
  injection e with e5 e
  injection e with e6 e
  injection e with e7 e
  injection e with e8 e
  injection e with e9 e
  injection e with e10 e
  injection e with e11 e
  subst e1 e2 e3 e4 e5 e6 e7 e8 e9 e10 e11;exact⟨_,_,_,_,_,_,_,_,_,_,_,rfl,t1,t2,t3,t4,t5,t6,t7,t8,t9,t10,t11⟩
 have L5:LocE M b5 0 [.int .i64 (w.hz+b),m1,m2,m3,m4,m5,m6,vp,vd,vr,vt,vz]:=⟨_,_,gM,by omega,rfl⟩;have L1:=L1a.ext X6M;have Y7:=Y6.trans X6M;clear L1a g5 X_ n_ gM kM;have lv:(w.far b).lightW4:=far_light lw;have smV:=far_small (b:=b) sm;have slV:(w.far b).whole->(w.far b).told.slim:=λ_=>light4_told lv;refine W.k3 1 2 5 λT=> ?_;repeat (first|refine W.g ?_|refine W.m λh_ X_ n_ g_ L_=> ?_|refine W.n λh_ X_ n_ g_ S_=> ?_)
 refine W.call rfl rfl rfl (rcheck_w rv (Y7.fr fr) smV slV λH9 X9=> ?_);obtain⟨cv,hcv⟩:∃c,c=(w.far b).check:=⟨_,rfl⟩;rw[<-hcv];have L1:=L1.ext X9;have L5:=L5.ext X9;have Y9:=Y7.trans X9;have rv9:=Rp.ext X9 rv;refine W.k4 1 2 5 39 λT=> ?_;by_cases e0:¬cv.err=0
 ·repeat (first|refine W.g ?_|refine W.m λh_ X_ n_ g_ L_=> ?_|refine W.n λh_ X_ n_ g_ S_=> ?_)
  exact⟨_,rfl⟩
 have e0:cv.err=0:=Decidable.not_not.1 e0;have cv1:(w.far b).check.err=0:=by rw[<-hcv];exact e0
 have fv:=WorldD.fine cv1;repeat (first|refine W.g ?_|refine W.m λh_ X_ n_ g_ L_=> ?_|refine W.n λh_ X_ n_ g_ S_=> ?_)
 refine W.call rfl rfl rfl (light_w rv9 (Y9.fr fr) λHA bb XA hb=> ?_);have L1:=L1.ext XA;have L5:=L5.ext XA;have YA:=Y9.trans XA;have rvA:=Rp.ext XA rv9;refine W.k5 1 2 5 42 44 λT=> ?_;cases bb
 ·repeat (first|refine W.g ?_|refine W.m λh_ X_ n_ g_ L_=> ?_|refine W.n λh_ X_ n_ g_ S_=> ?_)
  exact⟨_,rfl⟩
 clear hb;repeat (first|refine W.g ?_|refine W.m λh_ X_ n_ g_ L_=> ?_|refine W.n λh_ X_ n_ g_ S_=> ?_)
 refine W.call rfl rfl rfl (All_w (Rp.ext YA r0) (rh.ext YA) (YA.fr fr) sm sl λHB va ea XB hA=> ?_);have L5:=L5.ext XB;have YB:=YA.trans XB;have rvB:=Rp.ext XB rvA;clear L1;rcases hA with hA|hA|hA
 ·exact absurd c1 hA.1
 ·obtain⟨_,_,rfl,rfl⟩:=hA
  refine W.k3 1 5 49 λT=> ?_;repeat (first|refine W.g ?_|refine W.m λh_ X_ n_ g_ L_=> ?_|refine W.n λh_ X_ n_ g_ S_=> ?_)
  refine W.call rfl rfl rfl (All_w rvB (rh.ext YB) (YB.fr fr) smV slV λHC vb eb XC hB=> ?_);rcases hB with hB|hB|hB
  ·exact absurd cv1 hB.1
  ·obtain⟨_,_,rfl,rfl⟩:=hB
   repeat (first|refine W.g ?_|refine W.m λh_ X_ n_ g_ L_=> ?_|refine W.n λh_ X_ n_ g_ S_=> ?_)
   exact⟨_,rfl⟩
  ·obtain⟨_,_,rfl,_⟩:=hB
   repeat (first|refine W.g ?_|refine W.m λh_ X_ n_ g_ L_=> ?_|refine W.n λh_ X_ n_ g_ S_=> ?_)
   exact⟨_,rfl⟩
 obtain⟨_,ta,rfl,sA⟩:=hA;refine W.k3 1 5 49 λT=> ?_;repeat (first|refine W.g ?_|refine W.m λh_ X_ n_ g_ L_=> ?_|refine W.n λh_ X_ n_ g_ S_=> ?_)
 refine W.call rfl rfl rfl (All_w rvB (rh.ext YB) (YB.fr fr) smV slV λHC vb eb XC hB=> ?_);rcases hB with hB|hB|hB
 ·exact absurd cv1 hB.1
 ·obtain⟨_,_,rfl,rfl⟩:=hB
  refine W.k5 1 5 6 7 54 λT=> ?_;repeat (first|refine W.g ?_|refine W.m λh_ X_ n_ g_ L_=> ?_|refine W.n λh_ X_ n_ g_ S_=> ?_)
  exact⟨_,rfl⟩
 obtain⟨_,tb,rfl,sB⟩:=hB;have YC:=YB.trans XC;have sA:=sA.ext XC;have la:=runs_len f w.trips.length (Nat.le_refl _);have lb:=runs_len fv w.trips.length (Nat.le_refl _);have sub:=WorldD.far_sub (b:=b) (by omega) f w.trips.length (Nat.le_refl _);have ownA:∀x∈w.runs w.trips.length,x=w.runAt x.trip.toNat x.no:=λx hx=>WorldD.runs_own hx;have ownB:∀x∈(w.far b).runs w.trips.length,x=w.runAt x.trip.toNat x.no:=λx hx=>WorldD.runs_own (w:=w.far b) hx;have tame:∀x∈w.runs w.trips.length,x.arr.length<=1099511627776/\x.dep.length<=1099511627776:=λx hx=>runs_tame f _ (Nat.le_refl _) hx;have tb:(w.far b).total w.trips.length<=16384:=tb;have sB:Sl HC vb ((w.far b).runs w.trips.length):=sB;obtain⟨A,hAA⟩:∃A,A=w.runs w.trips.length:=⟨_,rfl⟩;obtain⟨B,hBB⟩:∃B,B=(w.far b).runs w.trips.length:=⟨_,rfl⟩;rw[<-hAA]at sA la sub ownA tame;rw[<-hBB]at sB lb sub ownB;have lA:A.length<=16384:=by omega
 have lB:B.length<=16384:=by omega
 clear L5;refine W.k4 1 6 7 54 λT=> ?_;repeat (first|refine W.g ?_|refine W.m λh_ X_ n_ g_ L_=> ?_|refine W.n λh_ X_ n_ g_ S_=> ?_)
 refine W.k4 6 8 10 11 λT=> ?_
 refine W.loop (σ:=Nat×Nat) (λp tm h'=>Ext HC h'/\tm.look 6=va/\tm.look 8=vb/\tm.look 10= .int .i64 (p.2:Int)/\tm.look 11= .int .i64 (p.1:Int)/\p.1<=B.length/\p.2<=A.length/\(A.drop p.2).Sublist (B.drop p.1)) (λp=>B.length-p.1) ?_ (s:=(0,0))
  ⟨Ext.refl _,rfl,rfl,rfl,rfl,Nat.zero_le _,Nat.zero_le _,sub⟩
 rintro⟨i,a⟩ tm h' ⟨X,w6,w8,w10,w11,hi,ha,hs⟩;simp only at w10 w11 hi ha hs;obtain⟨T,rfl⟩:=Tm.t4 w6 w8 w10 w11;clear w6 w8 w10 w11;have XX:=YC.trans X;by_cases d1:i<B.length
 ·by_cases d2:a<A.length
  ·have eA:A.drop a=A[a]::A.drop (a+1):=List.drop_eq_getElem_cons d2
   have eB:B.drop i=B[i]::B.drop (i+1):=List.drop_eq_getElem_cons d1;rw[eA,eB]at hs;have mA:=ownA _ (List.getElem_mem d2);have mB:=ownB _ (List.getElem_mem d1);have tA:=tame _ (List.getElem_mem d2);obtain⟨x,hx⟩:∃x,x=A[a]:=⟨_,rfl⟩;obtain⟨u,hu⟩:∃u,u=B[i]:=⟨_,rfl⟩;rw[<-hx]at hs mA tA;rw[<-hu]at hs mB;repeat (first|refine W.g ?_|refine W.m λh_ X_ n_ g_ L_=> ?_|refine W.n λh_ X_ n_ g_ S_=> ?_)
   have ds:=DX.start (XX.fr fr);repeat (first|refine W.gd ?_|refine W.e λr_ h_ ds_ s_=> ?_)
   refine W.dixR sB d1 rfl rfl rfl rfl rfl rfl rfl λi1 o1 e1 M1 re1=> ?_;rw[<-hu]at re1;obtain⟨p1,p2,rfl,_⟩:=id re1;repeat (first|refine W.gd ?_|refine W.e λr_ h_ ds_ s_=> ?_)
   refine W.dixR sA d2 rfl rfl rfl rfl rfl rfl rfl λi2 o2 e2 M2 re2=> ?_;rw[<-hx]at re2;obtain⟨p3,p4,rfl,_⟩:=id re2;by_cases k1:u.trip=x.trip
   ·repeat (first|refine W.gd ?_|refine W.e λr_ h_ ds_ s_=> ?_)
    refine W.dixR sB d1 rfl rfl rfl rfl rfl rfl rfl λi3 o3 e3 M3 re3=> ?_;rw[<-hu]at re3;obtain⟨p5,p6,rfl,_⟩:=id re3;repeat (first|refine W.gd ?_|refine W.e λr_ h_ ds_ s_=> ?_)
    refine W.dixR sA d2 rfl rfl rfl rfl rfl rfl rfl λi4 o4 e4 M4 re4=> ?_;rw[<-hx]at re4;obtain⟨p7,p8,rfl,_⟩:=id re4;by_cases k2:u.no=x.no
    ·repeat (first|refine W.gd ?_|refine W.e λr_ h_ ds_ s_=> ?_)
     repeat (first|refine W.g ?_|refine W.m λh_ X_ n_ g_ L_=> ?_|refine W.n λh_ X_ n_ g_ S_=> ?_)
     have eq:x=u:=by rw[mA,mB,k1,k2]
     have X1:=ds_.x;clear ds ds_ M1 M2 M3 M4;have ds:=DX.start ((XX.trans X1).fr fr);repeat (first|refine W.gd ?_|refine W.e λr_ h_ ds_ s_=> ?_)
     refine W.dixR sA d2 rfl rfl rfl rfl rfl rfl rfl λi2 o2 e2 M2 re2=> ?_;rw[<-hx]at re2;obtain⟨p3,p4,rfl,_⟩:=id re2;repeat (first|refine W.gd ?_|refine W.e λr_ h_ ds_ s_=> ?_)
     refine W.dixR sB d1 rfl rfl rfl rfl rfl rfl rfl λi1 o1 e1 M1 re1=> ?_;rw[<-hu,<-eq]at re1;obtain⟨p1,p2,rfl,_⟩:=id re1;repeat (first|refine W.gd ?_|refine W.e λr_ h_ ds_ s_=> ?_)
     have X2:=ds_.x;refine W.dcallZ ds_ rfl rfl rfl rfl (runSame_w (Rp.ext ((X.trans X1).trans X2) re2) (Rp.ext ((X.trans X1).trans X2) re1) (((XX.trans X1).trans X2).fr fr) tA.1 tA.2 λh3 Y3=>DZ.val Y3 λq3 N3 ds3 t3=> ?_);repeat (first|refine W.gd ?_|refine W.e λr_ h_ ds_ s_=> ?_)
     repeat (first|refine W.g ?_|refine W.m λh_ X_ n_ g_ L_=> ?_|refine W.n λh_ X_ n_ g_ S_=> ?_)
     exact⟨(i+1,a+1),by show B.length-(i+1)<B.length-i;omega,(X.trans X1).trans ds3.x,rfl,rfl,rfl,rfl,d1,d2,sub_hit hs eq⟩
    ·repeat (first|refine W.gd ?_|refine W.e λr_ h_ ds_ s_=> ?_)
     repeat (first|refine W.g ?_|refine W.m λh_ X_ n_ g_ L_=> ?_|refine W.n λh_ X_ n_ g_ S_=> ?_)
     exact⟨(i+1,a),by show B.length-(i+1)<B.length-i;omega,X.trans ds_.x,rfl,rfl,rfl,rfl,d1,ha,by rw[eA,<-hx];exact sub_miss hs λe=>k2 (by rw[e])⟩
   ·repeat (first|refine W.gd ?_|refine W.e λr_ h_ ds_ s_=> ?_)
    repeat (first|refine W.g ?_|refine W.m λh_ X_ n_ g_ L_=> ?_|refine W.n λh_ X_ n_ g_ S_=> ?_)
    exact⟨(i+1,a),by show B.length-(i+1)<B.length-i;omega,X.trans ds_.x,rfl,rfl,rfl,rfl,d1,ha,by rw[eA,<-hx];exact sub_miss hs λe=>k1 (by rw[e])⟩
  ·have ea:a=A.length:=by omega
   have hl:=sub.length_le;subst ea;repeat (first|refine W.g ?_|refine W.m λh_ X_ n_ g_ L_=> ?_|refine W.n λh_ X_ n_ g_ S_=> ?_)
   exact⟨_,rfl⟩
 ·have ea:a=A.length:=by
    have:=hs.length_le;rw[List.length_drop,List.length_drop]at this;omega
  have hl:=sub.length_le;subst ea;repeat (first|refine W.g ?_|refine W.m λh_ X_ n_ g_ L_=> ?_|refine W.n λh_ X_ n_ g_ S_=> ?_)
  exact⟨_,rfl⟩
end
end Go.Proofs.YtfheibkikpefkaaGreatDoor

namespace Go.Proofs.YtfheibkikpefkaaGreatDoor
open Go Go.CM Go.CM.Tt
noncomputable section
set_option maxRecDepth 100000
theorem law_runs {H:Type} {enc:TypeId×Value->H} {W:World} {v0:Value} {d0:DataW H} {p0:List MemPlace} (t0:DataW.Trod enc Tryz.prog W 0 (λ_=>true) true 31 v0 d0 p0) (n:Int) (h1:nglob<=W.heap.size) (h2:RowsAt W rows (rho0 nglob)):
  Calls Tryz.prog 5 #[v0,.int .i64 n] W λe w'=>∃x,e= .returned x/\VR (rho0 nglob) (.bool true) x/\Keep (λ_=>False) W w':=by
 obtain⟨bs,vss,hl,hH,hv⟩:=open_args (rows:=rows) [(ptWorld,v0)] (λit hit=>by
  simp only[List.mem_cons,List.not_mem_nil,or_false]at hit;rcases hit with rfl
  exact⟨_,_,_,ptB_ok 10 ptWorld 31 (by kernel_rfl),t0⟩) h1 (λr hr=>envW1.rows r hr) h2
 match vss,hl with
 |[a],_=>
  obtain⟨r0,o0,_,q0⟩:=hv 0 _ a rfl rfl;obtain⟨w,hw⟩:=rep_world q0;obtain⟨arr0,rfl,g0⟩:=agg_of r0 o0 (by have:a.length=12:=Rp.len hw;omega);have hrun:CM.W E1 (.call (.fn 5 [] []) [.agg a,.int .i64 n]) .leaf (heapOf E1.globs E1.rows (bs.map (·.cs))) (λr=>∃h',r= .val (.bool true) h'):=farther_w n hw (rh_of _) (fresh_of _);have hxs:VRs (rhoA E1.globs bs) [.agg a,.int .i64 n] [.agg arr0,.int .i64 n]:=VRs.cons g0 (VRs.cons (.int _ _) (VRs.nil _));exact run_args envW1 hrun rfl hH hxs
end
end Go.Proofs.YtfheibkikpefkaaGreatDoor
