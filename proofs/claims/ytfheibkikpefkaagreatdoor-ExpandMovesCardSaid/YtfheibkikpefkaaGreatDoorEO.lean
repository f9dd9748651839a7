/- The runs that are there are the first ones of their trip; each is the first one, moved: the law's own function. No condition but that the table of spaces lies where it does and memory beyond the next number is empty. -/
import Derived.Test.YtfheibkikpefkaaGreatDoorXU
import Derived.Test.YtfheibkikpefkaaGreatDoorRLc
import Derived.Test.YtfheibkikpefkaaGreatDoorXQ9
set_option linter.unusedVariables false
set_option linter.unusedSimpArgs false
namespace Go.Proofs.YtfheibkikpefkaaGreatDoor
open Go Go.CM Go.CM.Tt
noncomputable section
set_option maxHeartbeats 40000000
set_option maxRecDepth 100000
theorem run_eq {a b c d:Int} {l m l' m':List Int} (h:(⟨a,b,l,m⟩:RunD)=⟨c,d,l',m'⟩):a=c/\b=d/\l=l'/\m=m':=by
 injection h with h1 h2 h3 h4
 exact⟨h1,h2,h3,h4⟩
theorem arrs_lim {r:RouteW} (t:r.tame) (a:Int) {k:Nat} (h:k<=r.rides.length):a<=(r.arrs a r.rides.length).getD k 0/\(r.arrs a r.rides.length).getD k 0<=a+109951162777600:=by
 obtain⟨tl,tr,tp⟩:=t;cases k with
 |zero=>exact⟨Int.le_refl a,by show a<=a+109951162777600;omega⟩
 |succ k=>
  rw[RouteW.arrs_succ r a (by omega)];have:=tr k;have:=tp k;omega
theorem deps_lim {r:RouteW} (t:r.tame) (a:Int) {k:Nat} (h:k<=r.rides.length):a<=(r.deps a r.rides.length).getD k 0/\(r.deps a r.rides.length).getD k 0<=a+109951162777600:=by
 obtain⟨tl,tr,tp⟩:=t;rw[RouteW.deps_get r a h];have:=tp k;omega
theorem moves_w {h:Heap} {tm:Tm} {cs:List CV} {w:WorldD} (n0:Int) (r:Rp.R h cs w) (rh:RH h) (fr:Fresh h):W E1 (.call (.fn 4 [] []) [.agg cs,.int .i64 n0]) tm h (λr=>∃h',r= .val (.bool true) h'):=by
 have r0:=r;obtain⟨v1,v2,v3,v4,v5,v6,v7,v8,v9,v10,v11,rfl,s1,s2,s3,s4,s5,s6,s7,s8,s9,s10,s11⟩:=r;refine W.fn (s:=fnOf Tryz.f4) rfl rfl rfl rfl ?_;repeat (refine W.seq ?_)
 refine W.region ?_;refine W.box rfl rfl rfl λH1 X1 n1 g1 L1=> ?_;repeat (first|refine W.g ?_|refine W.m λh_ X_ n_ g_ L_=> ?_|refine W.n λh_ X_ n_ g_ S_=> ?_)
 refine W.call rfl rfl rfl (W.known rfl (rh.ext X1).1 ?_);repeat (first|refine W.g ?_|refine W.m λh_ X_ n_ g_ L_=> ?_|refine W.n λh_ X_ n_ g_ S_=> ?_)
 refine W.call rfl rfl rfl (light_w (Rp.ext X1 r0) (X1.fr fr) λH2 b X2 hb=> ?_);have L1:=L1.ext X2;have Y2:=X1.trans X2;refine W.k3 1 2 23 λT=> ?_;cases b
 ·repeat (first|refine W.g ?_|refine W.m λh_ X_ n_ g_ L_=> ?_|refine W.n λh_ X_ n_ g_ S_=> ?_)
  exact⟨_,rfl⟩
 have lx:=hb.1 rfl;have lw:=lx.1;have sm:=light4_small lw;have sl:w.whole->w.told.slim:=λ_=>light4_told lw;clear hb;repeat (first|refine W.g ?_|refine W.m λh_ X_ n_ g_ L_=> ?_|refine W.n λh_ X_ n_ g_ S_=> ?_)
 refine W.call rfl rfl rfl (rcheck_w (Rp.ext Y2 r0) (Y2.fr fr) sm sl λH3 X3=> ?_);obtain⟨c,hc⟩:∃c,c=w.check:=⟨_,rfl⟩;rw[<-hc];have L1:=L1.ext X3;have Y3:=Y2.trans X3;refine W.k4 1 2 25 27 λT=> ?_;by_cases c0:¬c.err=0
 ·repeat (first|refine W.g ?_|refine W.m λh_ X_ n_ g_ L_=> ?_|refine W.n λh_ X_ n_ g_ S_=> ?_)
  exact⟨_,rfl⟩
 have c0:c.err=0:=Decidable.not_not.1 c0;have c1:w.check.err=0:=by rw[<-hc];exact c0
 by_cases d0:w.trips.length=0
 ·repeat (first|refine W.g ?_|refine W.m λh_ X_ n_ g_ L_=> ?_|refine W.n λh_ X_ n_ g_ S_=> ?_)
  exact⟨_,rfl⟩
 have hl:w.trips.length<=40:=lw.2.2.2.2.2.2.2.2.2.1;have f:=WorldD.fine c1;repeat (first|refine W.g ?_|refine W.m λh_ X_ n_ g_ L_=> ?_|refine W.n λh_ X_ n_ g_ S_=> ?_)
 refine W.call rfl rfl rfl (pick_w n0 w.trips.length (by omega) (by omega) λj hj=> ?_);obtain⟨t,ro,jr,TT⟩:=f.at hj;obtain⟨⟨hj',ht⟩,⟨hjr,hro⟩,er,tf,tv,tu,fu,tame,tlast,hst,ta,to⟩:=id TT;refine W.k2 2 41 λT=> ?_;repeat (first|refine W.g ?_|refine W.m λh_ X_ n_ g_ L_=> ?_|refine W.n λh_ X_ n_ g_ S_=> ?_)
 refine W.ixF s10 hj rfl rfl rfl rfl rfl rfl rfl λi1 o1 M1=> ?_;replace M1:=show LocE h i1 o1 [.int .i64 (jr:Int),.int .i64 t.frm,.int .i64 t.evr,.int .i64 t.untl]from by rw[<-er,<-ht];exact M1
 repeat (first|refine W.g ?_|refine W.m λh_ X_ n_ g_ L_=> ?_|refine W.n λh_ X_ n_ g_ S_=> ?_)
 refine W.ixR s9 hjr rfl rfl rfl rfl rfl rfl rfl λi2 o2 e2 M2 re2=> ?_;rw[hro]at re2;obtain⟨z1,z2,z3,ee,y1,y2,y3⟩:=id re2;subst ee;repeat (first|refine W.g ?_|refine W.m λh_ X_ n_ g_ L_=> ?_|refine W.n λh_ X_ n_ g_ S_=> ?_)
 rename_i K5 X5 n5 g5 L5;have L5:LocE K5 H3.next 0 [.int .i64 (jr:Int),.int .i64 t.frm,.int .i64 t.evr,.int .i64 t.untl]:=L5;have L5:=L5.ext X_;have L6:LocE h_ K5.next 0 [z1,z2,z3]:=L_;have L1:=(L1.ext X5).ext X_;have Y5:=(Y3.trans X5).trans X_;obtain⟨b5,hb5⟩:∃b,b=H3.next:=⟨_,rfl⟩;obtain⟨b6,hb6⟩:∃b,b=K5.next:=⟨_,rfl⟩;obtain⟨K,hK⟩:∃K,K=h_:=⟨_,rfl⟩;rw[<-hb5,<-hK]at L5;rw[<-hb6,<-hK]at L6;rw[<-hK]at L1 Y5;rw[<-hK];simp only[<-hb5,<-hb6];clear L_ g_ g5 M1 M2 X_ X5 n_ n5 hb5 hb6 hK;obtain⟨tl,tr,tp⟩:=id tame;refine W.k6 1 2 5 6 7 8 λT=> ?_;refine W.loop (σ:=Nat) (λk tm h'=>Ext K h'/\tm.look 1= .int .i64 (j:Int)/\tm.look 2= .ptr (some (h.next,0))/\tm.look 5= .ptr (some (b5,0))/\tm.look 6= .ptr (some (b6,0))/\tm.look 7= .int .i64 (ro.pre k)/\tm.look 8= .int .i64 (k:Int)/\k<=ro.rides.length) (λk=>ro.rides.length-k) ?_ (s:=0) ⟨Ext.refl _,rfl,rfl,rfl,rfl,rfl,rfl,Nat.zero_le _⟩;rintro k tm h' ⟨X,w1,w2,w5,w6,w7,w8,hk⟩;obtain⟨T,rfl⟩:=Tm.t6 w1 w2 w5 w6 w7 w8;clear w1 w2 w5 w6 w7 w8;have hpk:=tp k;have hrk:=tr k;by_cases c2:k<ro.rides.length
 ·have e2:ro.rides.getD k 0=ro.rides[k]:=by simp[List.getD_eq_getElem?_getD,c2]
  repeat (first|refine W.g ?_|refine W.m λh_ X_ n_ g_ L_=> ?_|refine W.n λh_ X_ n_ g_ S_=> ?_)
  refine W.ixF y2 c2 rfl rfl rfl rfl rfl rfl rfl λi3 o3 P1=> ?_;replace P1:=show LocE h i3 o3 [.int .i64 (ro.rides.getD k 0)]from by rw[e2];exact P1
  repeat (first|refine W.g ?_|refine W.m λh_ X_ n_ g_ L_=> ?_|refine W.n λh_ X_ n_ g_ S_=> ?_)
  by_cases c3:k<ro.stays.length
  ·have e3:ro.stays.getD k 0=ro.stays[k]:=by simp[List.getD_eq_getElem?_getD,c3]
   repeat (first|refine W.g ?_|refine W.m λh_ X_ n_ g_ L_=> ?_|refine W.n λh_ X_ n_ g_ S_=> ?_)
   refine W.ixF y3 c3 rfl rfl rfl rfl rfl rfl rfl λi4 o4 P2=> ?_;replace P2:=show LocE h i4 o4 [.int .i64 (ro.stays.getD k 0)]from by rw[e3];exact P2
   repeat (first|refine W.g ?_|refine W.m λh_ X_ n_ g_ L_=> ?_|refine W.n λh_ X_ n_ g_ S_=> ?_)
   exact⟨k+1,lessN c2,X,rfl,rfl,rfl,rfl,rfl,rfl,c2⟩
  ·have e3:ro.stays.getD k 0=0:=by simp[List.getD_eq_getElem?_getD,List.getElem?_eq_none (show ro.stays.length<=k by omega)]
   repeat (first|refine W.g ?_|refine W.m λh_ X_ n_ g_ L_=> ?_|refine W.n λh_ X_ n_ g_ S_=> ?_)
   refine⟨k+1,lessN c2,X,rfl,rfl,rfl,rfl,?_,rfl,c2⟩;show CV.int .i64 (ro.pre k+ro.rides.getD k 0)=CV.int .i64 (ro.pre k+ro.rides.getD k 0+ro.stays.getD k 0);rw[e3,Int.add_zero]
 obtain rfl:k=ro.rides.length:=by omega
 have Y6:=Y5.trans X;have L1:=L1.ext X;have L5:=L5.ext X;have L6:=L6.ext X;clear hpk hrk;have hpl:=tp ro.rides.length;repeat (first|refine W.g ?_|refine W.m λh_ X_ n_ g_ L_=> ?_|refine W.n λh_ X_ n_ g_ S_=> ?_)
 refine W.call rfl rfl rfl (Count_w (Rp.ext Y6 r0) (rh.ext Y6) (Y6.fr fr) sm sl (j:Int) λH7 X7=> ?_);rw[WorldD.countX_there c1 hj];have cb:=cntAt_bound f hj;obtain⟨n,hn⟩:∃n:Nat,w.cntAt j=(n:Int):=⟨(w.cntAt j).toNat,by omega⟩;have hcnt:w.cntAt j=w.cnt t ro:=by unfold WorldD.cntAt;rw[ta,to]
 have hiff:∀no:Int,0<=no->(w.hasAt j no↔no<(n:Int)):=λno h0=>by
  rw[TT.has,WorldD.has_iff tv.1 h0,<-hcnt,hn]
 rw[hn];have L1:=L1.ext X7;have L5:=L5.ext X7;have L6:=L6.ext X7;have Y7:=Y6.trans X7;refine W.k6 1 2 5 6 7 81 λT=> ?_;by_cases e1:600<n
 ·repeat (first|refine W.g ?_|refine W.m λh_ X_ n_ g_ L_=> ?_|refine W.n λh_ X_ n_ g_ S_=> ?_)
  exact⟨_,rfl⟩
 repeat (first|refine W.g ?_|refine W.m λh_ X_ n_ g_ L_=> ?_|refine W.n λh_ X_ n_ g_ S_=> ?_)
 refine W.call rfl rfl rfl (One_w (Rp.ext Y7 r0) (rh.ext Y7) (Y7.fr fr) sm sl (j:Int) 0 λH8 t0 m0 uA uD a0 d0 X8 O8 he=> ?_);have L1:=L1.ext X8;have L5:=L5.ext X8;have L6:=L6.ext X8;have Y8:=Y7.trans X8;by_cases cn:n=0
 ·have nh:¬w.hasAt j 0:=by rw[hiff 0 (Int.le_refl _)];omega
  rw[WorldD.oneX_not c1 (λh=>nh (by have:=h.2;rwa[Int.toNat_natCast]at this))];have nz:¬t.frm+ro.pre ro.rides.length<=w.hz:=λhh=>nh (TT.has.2 ⟨Int.le_refl _,(countT_lt tv.1 (Int.le_refl _)).2 ⟨by omega,λ_=>rfl⟩,by show t.frm+0*t.evr+ro.pre ro.rides.length<=w.hz;omega⟩);have f1:=tf.1;have f2:=tf.2;refine W.k7 1 2 5 6 7 9 87 λT=> ?_;repeat (first|refine W.g ?_|refine W.m λh_ X_ n_ g_ L_=> ?_|refine W.n λh_ X_ n_ g_ S_=> ?_)
  exact⟨_,rfl⟩
 have h0:w.hasAt j 0:=by rw[hiff 0 (Int.le_refl _)];omega
 have e8:w.oneX (j:Int) 0=(w.runAt j 0,0):=WorldD.oneX_there c1 hj h0;rw[e8]at he ⊢;have he:(⟨t0,m0,a0,d0⟩:RunD)=w.runAt j 0:=he;rw[TT.run,Int.zero_mul,Int.add_zero]at he;obtain⟨rfl,rfl,rfl,rfl⟩:=run_eq he;clear he;refine W.k7 1 2 5 6 7 9 87 λT=> ?_;have f1:=tf.1;have f2:=tf.2;have v1':=tv.1;have v2':=tv.2;have u2:=tu.2;have P0:0<=(n:Int)*t.evr:=Int.mul_nonneg (by omega) tv.1;have P1:(n:Int)*t.evr<=600*1099511627776:=Int.mul_le_mul (by omega) tv.2 tv.1 (by decide);have m1: -9223372036854775808<=(n:Int)*t.evr:=by omega
 have m2:(n:Int)*t.evr<=9223372036854775807:=by omega
 have nhn:¬w.hasAt j (n:Int):=by rw[hiff _ (by omega)];omega
 have nev:0<t.evr->t.frm+(n:Int)*t.evr<=t.untl->¬t.frm+(n:Int)*t.evr+ro.pre ro.rides.length<=w.hz:=λe0 e1 e2=>nhn (TT.has.2 ⟨by omega,(countT_lt tv.1 (by omega)).2 ⟨e1,λh=>by omega⟩,e2⟩)
 have nz:t.evr=0->n=1:=λe0=>by
  have h1:¬w.hasAt j 1:=λhh=>by
   have:=((countT_lt tv.1 (by decide)).1 (TT.has.1 hh).2.1).2 e0;omega
  rw[hiff 1 (by decide)]at h1;omega
 repeat (first|refine W.g ?_|refine W.m λh_ X_ n_ g_ L_=> ?_|refine W.n λh_ X_ n_ g_ S_=> ?_)
 have Y10:=Y8.trans X_;have L10:LocE h_ H8.next 0 [.int .i64 (j:Int),.int .i64 0,uA,uD]:=L_;have L1:=L1.ext X_;have L5:=L5.ext X_;have L6:=L6.ext X_;have O8:=O8.ext X_;have fA:Sl h_ uA (ro.arrs t.frm ro.rides.length):=(O8.o (1,uA,(ro.arrs t.frm ro.rides.length).map Flat.enc) (by simp)).toSl (α:=Int);have fD:Sl h_ uD (ro.deps t.frm ro.rides.length):=(O8.o (1,uD,(ro.deps t.frm ro.rides.length).map Flat.enc) (by simp)).toSl (α:=Int);obtain⟨b10,hb10⟩:∃b,b=H8.next:=⟨_,rfl⟩;obtain⟨K10,hK10⟩:∃K,K=h_:=⟨_,rfl⟩;rw[<-hK10]at L1 L5 L6 L10 Y10 fA fD;rw[<-hb10]at L10;rw[<-hK10];simp only[<-hb10];clear O8 L_ g_ X_ n_ hK10 hb10;refine W.k9 1 2 5 6 7 9 10 12 113 λT=> ?_;refine W.cutB (λtm' h'=>h'=K10/\tm'.look 1= .int .i64 (j:Int)/\tm'.look 2= .ptr (some (h.next,0))/\tm'.look 5= .ptr (some (b5,0))/\tm'.look 6= .ptr (some (b6,0))/\tm'.look 7= .int .i64 (ro.pre ro.rides.length)/\tm'.look 9= .int .i64 (n:Int)/\tm'.look 10= .ptr (some (b10,0))/\tm'.look 135= .bool false) ?_ ?_
 ·by_cases e0:0<t.evr
  ·by_cases e1:t.frm+(n:Int)*t.evr<=t.untl
   ·have:=nev e0 e1
    repeat (first|refine W.g ?_|refine W.m λh_ X_ n_ g_ L_=> ?_|refine W.n λh_ X_ n_ g_ S_=> ?_)
    exact⟨rfl,rfl,rfl,rfl,rfl,rfl,rfl,rfl,rfl⟩
   ·repeat (first|refine W.g ?_|refine W.m λh_ X_ n_ g_ L_=> ?_|refine W.n λh_ X_ n_ g_ S_=> ?_)
    exact⟨rfl,rfl,rfl,rfl,rfl,rfl,rfl,rfl,rfl⟩
  ·have:=nz (by omega)
   repeat (first|refine W.g ?_|refine W.m λh_ X_ n_ g_ L_=> ?_|refine W.n λh_ X_ n_ g_ S_=> ?_)
   exact⟨rfl,rfl,rfl,rfl,rfl,rfl,rfl,rfl,rfl⟩
 rintro tm h1 ⟨e1,w1,w2,w5,w6,w7,w9,w10,w135⟩;rw[e1];clear e1;obtain⟨T,rfl⟩:=Tm.t8 w1 w2 w5 w6 w7 w9 w10 w135;clear w1 w2 w5 w6 w7 w9 w10 w135;repeat (first|refine W.g ?_|refine W.m λh_ X_ n_ g_ L_=> ?_|refine W.n λh_ X_ n_ g_ S_=> ?_)
 refine W.k8 1 2 5 6 7 9 10 13 λT=> ?_;refine W.loop (σ:=Nat) (λi tm h'=>Ext K10 h'/\tm.look 1= .int .i64 (j:Int)/\tm.look 2= .ptr (some (h.next,0))/\tm.look 5= .ptr (some (b5,0))/\tm.look 6= .ptr (some (b6,0))/\tm.look 7= .int .i64 (ro.pre ro.rides.length)/\tm.look 9= .int .i64 (n:Int)/\tm.look 10= .ptr (some (b10,0))/\tm.look 13= .int .i64 (i:Int)/\i<=n) (λi=>n-i) ?_ (s:=0) ⟨Ext.refl _,rfl,rfl,rfl,rfl,rfl,rfl,rfl,rfl,Nat.zero_le _⟩;rintro i tm h' ⟨X,w1,w2,w5,w6,w7,w9,w10,w13,hi⟩;obtain⟨T,rfl⟩:=Tm.t8 w1 w2 w5 w6 w7 w9 w10 w13;clear w1 w2 w5 w6 w7 w9 w10 w13;have XX:=Y10.trans X;by_cases q1:i<n
 ·have hA:w.hasAt j (i:Int):=(hiff _ (by omega)).2 (by omega)
  repeat (first|refine W.g ?_|refine W.m λh_ X_ n_ g_ L_=> ?_|refine W.n λh_ X_ n_ g_ S_=> ?_)
  refine W.call rfl rfl rfl (One_w (Rp.ext XX r0) (rh.ext XX) (XX.fr fr) sm sl (j:Int) (i:Int) λH9 t0 m0 wA wD a0 d0 X9 O9 he=> ?_);rw[WorldD.oneX_there c1 hj hA]at he ⊢;have he:(⟨t0,m0,a0,d0⟩:RunD)=w.runAt j (i:Int):=he;have hrun:=TT.run (no:=(i:Int));have hck:w.checkR (w.runAt j (i:Int))=0:=WorldD.checkR_own c1 hj hA;have o5:=(TT.okRun f hA).2.2.2.2;have I0:0<=(i:Int)*t.evr:=Int.mul_nonneg (by omega) tv.1;have I1:(i:Int)*t.evr<=600*1099511627776:=Int.mul_le_mul (by omega) tv.2 tv.1 (by decide);have i1: -9223372036854775808<=(i:Int)*t.evr:=by omega
  have i2:(i:Int)*t.evr<=9223372036854775807:=by omega
  rw[hrun]at he hck;obtain⟨rfl,rfl,rfl,rfl⟩:=run_eq he;clear he hrun;refine W.k9 1 2 5 6 7 9 10 13 145 λT=> ?_;repeat (first|refine W.g ?_|refine W.m λh_ X_ n_ g_ L_=> ?_|refine W.n λh_ X_ n_ g_ S_=> ?_)
  have L14:LocE h_ H9.next 0 [.int .i64 (j:Int),.int .i64 (i:Int),wA,wD]:=L_;have Y11:=(XX.trans X9).trans X_;have X11:=(X.trans X9).trans X_;have O9:=O9.ext X_;obtain⟨b14,hb14⟩:∃b,b=H9.next:=⟨_,rfl⟩;obtain⟨K11,hK11⟩:∃K,K=h_:=⟨_,rfl⟩;rw[<-hK11]at L14 Y11 X11 O9;rw[<-hb14]at L14;rw[<-hK11];simp only[<-hb14];clear L_ g_ X_ n_ hK11 hb14;have gR:Rp.R K11 [.int .i64 (j:Int),.int .i64 (i:Int),wA,wD] (⟨(j:Int),(i:Int),ro.arrs (t.frm+(i:Int)*t.evr) ro.rides.length,ro.deps (t.frm+(i:Int)*t.evr) ro.rides.length⟩:RunD):=O9.run;have gA:Sl K11 wA (ro.arrs (t.frm+(i:Int)*t.evr) ro.rides.length):=(O9.o (1,wA,(ro.arrs (t.frm+(i:Int)*t.evr) ro.rides.length).map Flat.enc) (by simp)).toSl (α:=Int);have gD:Sl K11 wD (ro.deps (t.frm+(i:Int)*t.evr) ro.rides.length):=(O9.o (1,wD,(ro.deps (t.frm+(i:Int)*t.evr) ro.rides.length).map Flat.enc) (by simp)).toSl (α:=Int);clear O9;obtain⟨at0,hat⟩:∃a,a=t.frm+(i:Int)*t.evr:=⟨_,rfl⟩;rw[<-hat]at gR gA gD hck o5;have la:(ro.arrs at0 ro.rides.length).length=ro.rides.length+1:=RouteW.arrs_len _ _ _;have ld:(ro.deps at0 ro.rides.length).length=ro.rides.length+1:=RouteW.deps_len _ _ _;have lfa:(ro.arrs t.frm ro.rides.length).length=ro.rides.length+1:=RouteW.arrs_len _ _ _;have lfd:(ro.deps t.frm ro.rides.length).length=ro.rides.length+1:=RouteW.deps_len _ _ _;refine W.k10 1 2 5 6 7 9 10 13 14 15 λT=> ?_;have ds:=DX.start (Y11.fr fr);have L1k:=L1.ext X11;have L5k:=L5.ext X11;have L6k:=L6.ext X11;have L10k:=L10.ext X11;repeat (first|refine W.gd ?_|refine W.e λr_ h_ ds_ s_=> ?_)
  refine W.dcallZ ds_ rfl rfl rfl rfl (Check_w (Rp.ext (Y11.trans ds_.x) r0) (Rp.ext ds_.x gR) (rh.ext (Y11.trans ds_.x)) ((Y11.trans ds_.x).fr fr) sm sl (by rw[la];omega) λh1 Y1=>DZ.val Y1 λq2 N1 ds1 a1=> ?_);rw[hck];refine W.k11 1 2 5 6 7 9 10 13 14 150 153 λT=> ?_;clear ds ds_;repeat (first|refine W.gd ?_|refine W.e λr_ h_ ds_ s_=> ?_)
  refine W.dlnS gA rfl rfl rfl rfl rfl rfl rfl ?_;repeat (first|refine W.gd ?_|refine W.e λr_ h_ ds_ s_=> ?_)
  refine W.dlnS y1 rfl rfl rfl rfl rfl rfl rfl ?_;repeat (first|refine W.gd ?_|refine W.e λr_ h_ ds_ s_=> ?_)
  refine W.dlnS fA rfl rfl rfl rfl rfl rfl rfl ?_;repeat (first|refine W.gd ?_|refine W.e λr_ h_ ds_ s_=> ?_)
  refine W.dlnS y1 rfl rfl rfl rfl rfl rfl rfl ?_;repeat (first|refine W.gd ?_|refine W.e λr_ h_ ds_ s_=> ?_)
  refine W.dlnS gA rfl rfl rfl rfl rfl rfl rfl ?_;repeat (first|refine W.gd ?_|refine W.e λr_ h_ ds_ s_=> ?_)
  rw[show(((ro.arrs at0 ro.rides.length).length:Int)-1)=(ro.rides.length:Int) by omega]
  have eL:(ro.arrs at0 ro.rides.length)[ro.rides.length]'(by omega)=at0+ro.pre ro.rides.length:=by
   have:=(TT.end_ at0).2;rw[List.getElem?_eq_getElem (by omega)]at this;exact Option.some.inj this
  refine W.dixF gA (j:=ro.rides.length) (by omega) rfl rfl rfl rfl rfl rfl rfl λi3 o3 Q1=> ?_;replace Q1:=show LocE K11 i3 o3 [.int .i64 (at0+ro.pre ro.rides.length)]from by rw[<-eL];exact Q1
  repeat (first|refine W.gd ?_|refine W.e λr_ h_ ds_ s_=> ?_)
  refine W.k10 1 2 5 6 7 9 10 13 14 193 λT=> ?_;rw[show IntKind.i64.wrap ((i:Int)*t.evr)=(i:Int)*t.evr from IntWalk.i64_in _ (by omega),IntWalk.i64_in (t.frm+(i:Int)*t.evr) (by omega),IntWalk.i64_in (t.frm+(i:Int)*t.evr+ro.pre ro.rides.length) (by omega)];repeat (first|refine W.g ?_|refine W.m λh_ X_ n_ g_ L_=> ?_|refine W.n λh_ X_ n_ g_ S_=> ?_)
  have X12:=X11.trans ds_.x;have X1112:=ds_.x;have Y12:=Y11.trans ds_.x;have L14k:=L14.ext ds_.x;have L5k:=L5k.ext ds_.x;have L10k:=L10k.ext ds_.x;obtain⟨K12,hK12⟩:∃K,K=h_:=⟨_,rfl⟩;rw[<-hK12]at X12 X1112 Y12 L14k L5k L10k;rw[<-hK12];clear ds1 ds_ s_ Q1 hK12;refine W.k10 1 2 5 6 7 9 10 13 14 16 λT=> ?_;refine W.loop (σ:=Nat) (λk tm h'=>Ext K12 h'/\tm.look 1= .int .i64 (j:Int)/\tm.look 2= .ptr (some (h.next,0))/\tm.look 5= .ptr (some (b5,0))/\tm.look 6= .ptr (some (b6,0))/\tm.look 7= .int .i64 (ro.pre ro.rides.length)/\tm.look 9= .int .i64 (n:Int)/\tm.look 10= .ptr (some (b10,0))/\tm.look 13= .int .i64 (i:Int)/\tm.look 14= .ptr (some (b14,0))/\tm.look 16= .int .i64 (k:Int)/\k<=ro.rides.length+1) (λk=>ro.rides.length+1-k) ?_ (s:=0) ⟨Ext.refl _,rfl,rfl,rfl,rfl,rfl,rfl,rfl,rfl,rfl,rfl,Nat.zero_le _⟩;rintro k tm h2 ⟨X3',w1,w2,w5,w6,w7,w9,w10,w13,w14,w16,hk2⟩;obtain⟨T,rfl⟩:=Tm.t10 w1 w2 w5 w6 w7 w9 w10 w13 w14 w16;clear w1 w2 w5 w6 w7 w9 w10 w13 w14 w16;by_cases p1:k<ro.rides.length+1
  ·have eA:(ro.arrs at0 ro.rides.length)[k]'(by omega)=(ro.arrs t.frm ro.rides.length).getD k 0+(i:Int)*t.evr:=by
     rw[<-RouteW.arrs_move ro t.frm ((i:Int)*t.evr) (show k<=ro.rides.length by omega),<-hat,getI (by omega)]
   have eD:(ro.deps at0 ro.rides.length)[k]'(by omega)=(ro.deps t.frm ro.rides.length).getD k 0+(i:Int)*t.evr:=by
    rw[<-RouteW.deps_move ro t.frm ((i:Int)*t.evr) (show k<=ro.rides.length by omega),<-hat,getI (by omega)]
   have bA:=arrs_lim tame t.frm (show k<=ro.rides.length by omega);have bD:=deps_lim tame t.frm (show k<=ro.rides.length by omega);repeat (first|refine W.g ?_|refine W.m λh_ X_ n_ g_ L_=> ?_|refine W.n λh_ X_ n_ g_ S_=> ?_)
   have ds:=DX.start ((Y12.trans X3').fr fr);repeat (first|refine W.gd ?_|refine W.e λr_ h_ ds_ s_=> ?_)
   refine W.dixF gA (j:=k) (by omega) rfl rfl rfl rfl rfl rfl rfl λi4 o4 S1=> ?_;replace S1:=show LocE K11 i4 o4 [.int .i64 ((ro.arrs t.frm ro.rides.length).getD k 0+(i:Int)*t.evr)]from by rw[<-eA];exact S1
   have S1:=S1.ext X1112;repeat (first|refine W.gd ?_|refine W.e λr_ h_ ds_ s_=> ?_)
   refine W.dixF fA (j:=k) (by omega) rfl rfl rfl rfl rfl rfl rfl λi5 o5' S2=> ?_;replace S2:=show LocE K10 i5 o5' [.int .i64 ((ro.arrs t.frm ro.rides.length).getD k 0)]from by rw[getI (by omega)];exact S2
   repeat (first|refine W.gd ?_|refine W.e λr_ h_ ds_ s_=> ?_)
   refine W.dixF gD (j:=k) (by omega) rfl rfl rfl rfl rfl rfl rfl λi6 o6 S3=> ?_;replace S3:=show LocE K11 i6 o6 [.int .i64 ((ro.deps t.frm ro.rides.length).getD k 0+(i:Int)*t.evr)]from by rw[<-eD];exact S3
   have S3:=S3.ext X1112;repeat (first|refine W.gd ?_|refine W.e λr_ h_ ds_ s_=> ?_)
   refine W.dixF fD (j:=k) (by omega) rfl rfl rfl rfl rfl rfl rfl λi7 o7 S4=> ?_;replace S4:=show LocE K10 i7 o7 [.int .i64 ((ro.deps t.frm ro.rides.length).getD k 0)]from by rw[getI (by omega)];exact S4
   repeat (first|refine W.gd ?_|refine W.e λr_ h_ ds_ s_=> ?_)
   repeat (first|refine W.g ?_|refine W.m λh_ X_ n_ g_ L_=> ?_|refine W.n λh_ X_ n_ g_ S_=> ?_)
   exact⟨k+1,lessN p1,X3'.trans ds_.x,rfl,rfl,rfl,rfl,rfl,rfl,rfl,rfl,rfl,rfl,p1⟩
  ·repeat (first|refine W.g ?_|refine W.m λh_ X_ n_ g_ L_=> ?_|refine W.n λh_ X_ n_ g_ S_=> ?_)
   exact⟨i+1,lessN q1,X12.trans X3',rfl,rfl,rfl,rfl,rfl,rfl,rfl,rfl,q1⟩
 ·obtain rfl:i=n:=by omega
  repeat (first|refine W.g ?_|refine W.m λh_ X_ n_ g_ L_=> ?_|refine W.n λh_ X_ n_ g_ S_=> ?_)
  refine W.call rfl rfl rfl (One_w (Rp.ext XX r0) (rh.ext XX) (XX.fr fr) sm sl (j:Int) (i:Int) λH9 t0 m0 wA wD a0 d0 X9 O9 he=> ?_);rw[WorldD.oneX_not c1 (λh=>nhn (by have:=h.2;rwa[Int.toNat_natCast]at this))];repeat (first|refine W.g ?_|refine W.m λh_ X_ n_ g_ L_=> ?_|refine W.n λh_ X_ n_ g_ S_=> ?_)
  exact⟨_,rfl⟩
end
end Go.Proofs.YtfheibkikpefkaaGreatDoor
