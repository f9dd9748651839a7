/- A world in memory of its own. No condition but that memory beyond the next number is empty. -/
import Derived.Test.YtfheibkikpefkaaGreatDoorXU
import Derived.Test.YtfheibkikpefkaaGreatDoorEV
import Derived.Test.YtfheibkikpefkaaGreatDoorXQ4
set_option linter.unusedVariables false
set_option linter.unusedSimpArgs false
namespace Go.Proofs.YtfheibkikpefkaaGreatDoor
open Go Go.CM Go.CM.Tt
noncomputable section
set_option maxHeartbeats 16000000
set_option maxRecDepth 100000
theorem ownWorld_w {h:Heap} {tm:Tm} {Q:R->Prop} {cs:List CV} {w:WorldD} (r:Rp.R h cs w) (fr:Fresh h) (sh:w.small)
  (q:∀h' hz m1 m2 m3 m4 m5 m6 p d vr t z,Ext h h'->OwnWd h' h.next hz m1 m2 m3 m4 m5 m6 p d vr t z w->Q (.val (.agg [hz,m1,m2,m3,m4,m5,m6,p,d,vr,t,z]) h')):W E1 (.call (.fn 13 [] []) [.agg cs]) tm h Q:=by
 obtain⟨v1,v2,v3,v4,v5,v6,v7,v8,v9,v10,v11,rfl,s1,s2,s3,s4,s5,s6,s7,s8,s9,s10,s11⟩:=r;obtain⟨f1,f2,f3,f4,f5,f6,f7,f8,f9,f10,f11,fr2⟩:=sh;refine W.fn (s:=fnOf Tryz.f13) rfl rfl rfl rfl ?_;repeat (refine W.seq ?_)
 refine W.region ?_;refine W.box rfl rfl rfl λHa Xa na ga La=> ?_;refine W.al rfl rfl rfl λH0 X0 n0 g0 L0=> ?_;clear L0;have L1:=La.ext X0;have Xh0:Ext h H0:=Xa.trans X0;have g0:H0.get Ha.next=some (.cells [.int .i64 0,.slice none 0 0 0,.slice none 0 0 0,.slice none 0 0 0,.slice none 0 0 0,.slice none 0 0 0,.slice none 0 0 0,.slice none 0 0 0,.slice none 0 0 0,.slice none 0 0 0,.slice none 0 0 0,.slice none 0 0 0] false):=g0;repeat (first|refine W.g ?_|refine W.m λh_ X_ n_ g_ L_=> ?_)
 obtain⟨H,rfl⟩:∃H,H=h_:=⟨_,rfl⟩;have Ln:LocE H H0.next 0 [v1,v2,v3,v4,v5,v6]:=L_;have L1:=L1.ext X_;have Xh:Ext h H:=Xh0.trans X_;have g0:=(X_.old Ha.next (by omega)).trans g0;have nH:H.next=H0.next+1:=n_;clear L_ g_ n_;refine W.k3 1 2 3 λT=> ?_;have ds:=DX.start (Xh.fr fr);repeat (first|refine W.gd ?_|refine W.e λr_ h_ ds_ s_=> ?_)
 have X1:=ds_.x;have nx1:=X1.next;refine W.dcallZ ds_ rfl rfl rfl rfl (own_pathW (s7.ext (Xh.trans X1)) (by omega) λh1 z1 Y1 O1=>DZ.val Y1 λr1 h1' ds1 s1'=> ?_);have i1:=OwnR.ids O1;have j1:=Y1.next;have k1:=s1'.next;have O1:=(O1.low (lo':=Ha.next+1) (by omega)).ext s1'.ext;obtain⟨p1,m1,c1,y1,ee1⟩:=O1.form;rw[ee1];clear ds_ ds;repeat (first|refine W.gd ?_|refine W.e λr_ h_ ds_ s_=> ?_)
 have kk2:=s_.next;have X2:=ds_.x;have nx2:=X2.next;refine W.dcallZ ds_ rfl rfl rfl rfl (own_doorW (s8.ext (Xh.trans X2)) (by omega) λh2 z2 Y2 O2=>DZ.val Y2 λr2 h2' ds2 s2'=> ?_);have i2:=OwnR.ids O2;have j2:=Y2.next;have k2:=s2'.next;have O1:=((O1.ext s_.ext).ext Y2).ext s2'.ext;have O2:=(O2.low (lo':=Ha.next+1) (by omega)).ext s2'.ext;obtain⟨p2,m2,c2,y2,ee2⟩:=O2.form;rw[ee2];clear ds_ ds1;repeat (first|refine W.gd ?_|refine W.e λr_ h_ ds_ s_=> ?_)
 have kk3:=s_.next;have X3:=ds_.x;have nx3:=X3.next;refine W.dcallZ ds_ rfl rfl rfl rfl (own_tripW (s10.ext (Xh.trans X3)) (by omega) λh3 z3 Y3 O3=>DZ.val Y3 λr3 h3' ds3 s3'=> ?_);have i3:=OwnR.ids O3;have j3:=Y3.next;have k3:=s3'.next;have O1:=((O1.ext s_.ext).ext Y3).ext s3'.ext;have O2:=((O2.ext s_.ext).ext Y3).ext s3'.ext;have O3:=(O3.low (lo':=Ha.next+1) (by omega)).ext s3'.ext;obtain⟨p3,m3,c3,y3,ee3⟩:=O3.form;rw[ee3];clear ds_ ds2;repeat (first|refine W.gd ?_|refine W.e λr_ h_ ds_ s_=> ?_)
 have kk4:=s_.next;have X4:=ds_.x;have nx4:=X4.next;refine W.dcallZ ds_ rfl rfl rfl rfl (own_hazW (s11.ext (Xh.trans X4)) (by omega) λh4 z4 Y4 O4=>DZ.val Y4 λr4 h4' ds4 s4'=> ?_);have i4:=OwnR.ids O4;have j4:=Y4.next;have k4:=s4'.next;have O1:=((O1.ext s_.ext).ext Y4).ext s4'.ext;have O2:=((O2.ext s_.ext).ext Y4).ext s4'.ext;have O3:=((O3.ext s_.ext).ext Y4).ext s4'.ext;have O4:=(O4.low (lo':=Ha.next+1) (by omega)).ext s4'.ext;obtain⟨p4,m4,c4,y4,ee4⟩:=O4.form;rw[ee4];clear ds_ ds3;repeat refine W.gd ?_
 rw[<-ee1,<-ee2,<-ee3,<-ee4];have X5:=ds4.x;have nx5:=X5.next;refine W.dalZ ds4 rfl rfl rfl λr6 G ds6 x6 n6 g6=> ?_;have X7:=ds6.x;have nx7:=X7.next;refine W.dst (vs:=[.int .i64 w.hz,.slice none 0 0 0,.slice none 0 0 0,.slice none 0 0 0,.slice none 0 0 0,.slice none 0 0 0,.slice none 0 0 0,z1,z2,.slice none 0 0 0,z3,z4]) (cs':=[.int .i64 w.hz,.slice none 0 0 0,.slice none 0 0 0,.slice none 0 0 0,.slice none 0 0 0,.slice none 0 0 0,.slice none 0 0 0,z1,z2,.slice none 0 0 0,z3,z4]) ds6.hri rfl rfl rfl rfl rfl rfl rfl g6 rfl λr7 K hr7 s7'=> ?_;have gK:K.get h4'.next=some (.cells [.int .i64 w.hz,.slice none 0 0 0,.slice none 0 0 0,.slice none 0 0 0,.slice none 0 0 0,.slice none 0 0 0,.slice none 0 0 0,z1,z2,.slice none 0 0 0,z3,z4] false):=by rw[s7'.get,put_same]
 have XK:Ext h4' K:=(x6.put (Nat.le_refl _) (by omega) _).trans s7'.ext;have nK:K.next=h4'.next+1:=by rw[s7'.next];exact n6
 repeat refine W.gd ?_
 obtain⟨b4,hb4⟩:∃b4,b4=h4'.next:=⟨_,rfl⟩;rw[<-hb4]at gK nK ⊢;have XHK:Ext H K:=X5.trans XK;have XhK:Ext h K:=Xh.trans XHK;have nHK:=XHK.next;have gr:=(XHK.old Ha.next (by omega)).trans g0;have L1H:=L1;have L1:=L1.ext XHK;have Ln:=Ln.ext XHK;have O1:=O1.ext XK;have O2:=O2.ext XK;have O3:=O3.ext XK;have O4:=O4.ext XK;clear ds6 ds4 g6 ga;refine W.k4 1 2 3 4 λT=> ?_;repeat refine W.g ?_
 have ds:=DX.start (XhK.fr fr);repeat (first|refine W.gd ?_|refine W.e λr_ h_ ds_ s_=> ?_)
 have X11:=ds_.x;have nx11:=X11.next;refine W.dcallZ ds_ rfl rfl rfl rfl (own_str (s1.ext (XhK.trans X11)) (by omega) λh11 z11 Y11 O11=>DZ.val Y11 λr11 h11' ds11 s11'=> ?_);have i11:=OwnR.ids O11;have j11:=Y11.next;have k11:=s11'.next;have O11:=(O11.low (lo':=Ha.next+1) (by omega)).ext s11'.ext;obtain⟨p11,m11,c11,y11,ee11⟩:=O11.form;rw[ee11];clear ds_ ds;repeat (first|refine W.gd ?_|refine W.e λr_ h_ ds_ s_=> ?_)
 have kk12:=s_.next;have X12:=ds_.x;have nx12:=X12.next;refine W.dcallZ ds_ rfl rfl rfl rfl (own_str (s2.ext (XhK.trans X12)) (by omega) λh12 z12 Y12 O12=>DZ.val Y12 λr12 h12' ds12 s12'=> ?_);have i12:=OwnR.ids O12;have j12:=Y12.next;have k12:=s12'.next;have O11:=((O11.ext s_.ext).ext Y12).ext s12'.ext;have O12:=(O12.low (lo':=Ha.next+1) (by omega)).ext s12'.ext;obtain⟨p12,m12,c12,y12,ee12⟩:=O12.form;rw[ee12];clear ds_ ds11;repeat (first|refine W.gd ?_|refine W.e λr_ h_ ds_ s_=> ?_)
 have kk13:=s_.next;have X13:=ds_.x;have nx13:=X13.next;refine W.dcallZ ds_ rfl rfl rfl rfl (own_str (s3.ext (XhK.trans X13)) (by omega) λh13 z13 Y13 O13=>DZ.val Y13 λr13 h13' ds13 s13'=> ?_);have i13:=OwnR.ids O13;have j13:=Y13.next;have k13:=s13'.next;have O11:=((O11.ext s_.ext).ext Y13).ext s13'.ext;have O12:=((O12.ext s_.ext).ext Y13).ext s13'.ext;have O13:=(O13.low (lo':=Ha.next+1) (by omega)).ext s13'.ext;obtain⟨p13,m13,c13,y13,ee13⟩:=O13.form;rw[ee13];clear ds_ ds12;repeat (first|refine W.gd ?_|refine W.e λr_ h_ ds_ s_=> ?_)
 have kk14:=s_.next;have X14:=ds_.x;have nx14:=X14.next;refine W.dcallZ ds_ rfl rfl rfl rfl (own_str (s4.ext (XhK.trans X14)) (by omega) λh14 z14 Y14 O14=>DZ.val Y14 λr14 h14' ds14 s14'=> ?_);have i14:=OwnR.ids O14;have j14:=Y14.next;have k14:=s14'.next;have O11:=((O11.ext s_.ext).ext Y14).ext s14'.ext;have O12:=((O12.ext s_.ext).ext Y14).ext s14'.ext;have O13:=((O13.ext s_.ext).ext Y14).ext s14'.ext;have O14:=(O14.low (lo':=Ha.next+1) (by omega)).ext s14'.ext;obtain⟨p14,m14,c14,y14,ee14⟩:=O14.form;rw[ee14];clear ds_ ds13;repeat (first|refine W.gd ?_|refine W.e λr_ h_ ds_ s_=> ?_)
 have kk15:=s_.next;have X15:=ds_.x;have nx15:=X15.next;refine W.dcallZ ds_ rfl rfl rfl rfl (own_str (s5.ext (XhK.trans X15)) (by omega) λh15 z15 Y15 O15=>DZ.val Y15 λr15 h15' ds15 s15'=> ?_);have i15:=OwnR.ids O15;have j15:=Y15.next;have k15:=s15'.next;have O11:=((O11.ext s_.ext).ext Y15).ext s15'.ext;have O12:=((O12.ext s_.ext).ext Y15).ext s15'.ext;have O13:=((O13.ext s_.ext).ext Y15).ext s15'.ext;have O14:=((O14.ext s_.ext).ext Y15).ext s15'.ext;have O15:=(O15.low (lo':=Ha.next+1) (by omega)).ext s15'.ext;obtain⟨p15,m15,c15,y15,ee15⟩:=O15.form;rw[ee15];clear ds_ ds14;repeat (first|refine W.gd ?_|refine W.e λr_ h_ ds_ s_=> ?_)
 have kk16:=s_.next;have X16:=ds_.x;have nx16:=X16.next;refine W.dcallZ ds_ rfl rfl rfl rfl (own_str (s6.ext (XhK.trans X16)) (by omega) λh16 z16 Y16 O16=>DZ.val Y16 λr16 h16' ds16 s16'=> ?_);have i16:=OwnR.ids O16;have j16:=Y16.next;have k16:=s16'.next;have O11:=((O11.ext s_.ext).ext Y16).ext s16'.ext;have O12:=((O12.ext s_.ext).ext Y16).ext s16'.ext;have O13:=((O13.ext s_.ext).ext Y16).ext s16'.ext;have O14:=((O14.ext s_.ext).ext Y16).ext s16'.ext;have O15:=((O15.ext s_.ext).ext Y16).ext s16'.ext;have O16:=(O16.low (lo':=Ha.next+1) (by omega)).ext s16'.ext;obtain⟨p16,m16,c16,y16,ee16⟩:=O16.form;rw[ee16];clear ds_ ds15;repeat refine W.gd ?_
 rw[<-ee11,<-ee12,<-ee13,<-ee14,<-ee15,<-ee16];have X17:=ds16.x;have nx17:=X17.next;refine W.dst (vs:=[z11,z12,z13,z14,z15,z16]) (cs':=[.int .i64 w.hz,z11,z12,z13,z14,z15,z16,z1,z2,.slice none 0 0 0,z3,z4]) ds16.hri rfl rfl rfl rfl rfl rfl rfl ((X17.old b4 (by omega)).trans gK) rfl λr8 P hr8 s8'=> ?_;have gP:P.get b4=some (.cells [.int .i64 w.hz,z11,z12,z13,z14,z15,z16,z1,z2,.slice none 0 0 0,z3,z4] false):=by rw[s8'.get,put_same]
 have nP:P.next=h16'.next:=s8'.next;have kP:∀k,k≠b4->P.get k=h16'.get k:=λk hk=>by rw[s8'.get,Heap.get_put,if_neg (Ne.symm hk)]
 repeat refine W.gd ?_
 have XHP:Ext H P:=Ext.store (XHK.trans X17) nP kP (by omega) (by omega);have o1:OwnR P (Ha.next+1) 3 z1 (w.paths.map Flat.enc):=(O1.ext X17).other (by omega) λk _ _ hk=>kP k (by have:=(i1 k (by rw[hk];simp)).2;omega);have o2:OwnR P (Ha.next+1) 6 z2 (w.doors.map Flat.enc):=(O2.ext X17).other (by omega) λk _ _ hk=>kP k (by have:=(i2 k (by rw[hk];simp)).2;omega);have o3:OwnR P (Ha.next+1) 4 z3 (w.trips.map Flat.enc):=(O3.ext X17).other (by omega) λk _ _ hk=>kP k (by have:=(i3 k (by rw[hk];simp)).2;omega);have o4:OwnR P (Ha.next+1) 5 z4 (w.hazards.map Flat.enc):=(O4.ext X17).other (by omega) λk _ _ hk=>kP k (by have:=(i4 k (by rw[hk];simp)).2;omega);have o11:OwnR P (Ha.next+1) 1 z11 (w.names.stops.map Flat.enc):=O11.other (by omega) λk _ _ hk=>kP k (by have:=(i11 k (by rw[hk];simp)).1;omega);have o12:OwnR P (Ha.next+1) 1 z12 (w.names.paths.map Flat.enc):=O12.other (by omega) λk _ _ hk=>kP k (by have:=(i12 k (by rw[hk];simp)).1;omega);have o13:OwnR P (Ha.next+1) 1 z13 (w.names.doors.map Flat.enc):=O13.other (by omega) λk _ _ hk=>kP k (by have:=(i13 k (by rw[hk];simp)).1;omega);have o14:OwnR P (Ha.next+1) 1 z14 (w.names.routes.map Flat.enc):=O14.other (by omega) λk _ _ hk=>kP k (by have:=(i14 k (by rw[hk];simp)).1;omega);have o15:OwnR P (Ha.next+1) 1 z15 (w.names.trips.map Flat.enc):=O15.other (by omega) λk _ _ hk=>kP k (by have:=(i15 k (by rw[hk];simp)).1;omega);have o16:OwnR P (Ha.next+1) 1 z16 (w.names.hazards.map Flat.enc):=O16.other (by omega) λk _ _ hk=>kP k (by have:=(i16 k (by rw[hk];simp)).1;omega);have GF0:OwnGB P (Ha.next+1) (Ha.next+1) []:=OwnGB.nil;have GF1:=GF0.more o1 i1 (by omega) (by omega);have GF2:=GF1.more o2 i2 (by omega) (by omega);have GF3:=GF2.more o3 i3 (by omega) (by omega);have GF4:=GF3.more o4 i4 (by omega) (by omega);have GF5:=GF4.more o11 i11 (by omega) (by omega);have GF6:=GF5.more o12 i12 (by omega) (by omega);have GF7:=GF6.more o13 i13 (by omega) (by omega);have GF8:=GF7.more o14 i14 (by omega) (by omega);have GF9:=GF8.more o15 i15 (by omega) (by omega);have GF10:=GF9.more o16 i16 (by omega) (by omega);have GF:OwnG P (Ha.next+1) (flatW w z1 z2 z3 z4 z11 z12 z13 z14 z15 z16) []:=GF10.1;have GFb:∀k∈idsR (flatW w z1 z2 z3 z4 z11 z12 z13 z14 z15 z16),k<P.next:=λk hk=>(GF.lt k (List.mem_append_left _ hk)).2
 have GFn:∀k∈idsR (flatW w z1 z2 z3 z4 z11 z12 z13 z14 z15 z16),k≠b4:=λk hk=>by
  have hk:k∈idOf z1++(idOf z2++(idOf z3++(idOf z4++(idOf z11++(idOf z12++(idOf z13++(idOf z14++(idOf z15++(idOf z16++[]))))))))):=hk;simp only[List.mem_append,List.not_mem_nil,or_false]at hk;rcases hk with hk|hk|hk|hk|hk|hk|hk|hk|hk|hk
  ·have:=(i1 k hk).2;omega
  ·have:=(i2 k hk).2;omega
  ·have:=(i3 k hk).2;omega
  ·have:=(i4 k hk).2;omega
  ·have:=(i11 k hk).1;omega
  ·have:=(i12 k hk).1;omega
  ·have:=(i13 k hk).1;omega
  ·have:=(i14 k hk).1;omega
  ·have:=(i15 k hk).1;omega
  ·have:=(i16 k hk).1;omega
 have b4P:b4<P.next:=by omega
 have b4H:H.next<=b4:=by omega
 have haH:Ha.next<H.next:=by omega
 clear GF0 GF1 GF2 GF3 GF4 GF5 GF6 GF7 GF8 GF9 GF10 o1 o2 o3 o4 o11 o12 o13 o14 o15 o16 O1 O2 O3 O4 O11 O12 O13 O14 O15 O16 i1 i2 i3 i4 i11 i12 i13 i14 i15 i16 X17 gK kP ds16 hr8 s8' XHK;refine W.k3 1 2 4 λT=> ?_;repeat refine W.g ?_
 refine W.k4 1 2 4 5 λT=> ?_;have s9:=s9.ext Xh;clear L1 Ln La
 refine W.loop (σ:=Nat) (λk tm h'=>tm.look 1= .ptr (some (h.next,0))/\tm.look 2= .ptr (some (Ha.next,0))/\tm.look 4= .ptr (some (b4,0))/\tm.look 5= .int .i64 (k:Int)/\k<=w.routes.length/\Ext H h'/\P.next<=h'.next/\(∀a,a<P.next->a≠b4->h'.get a=P.get a)/\∃vr css,h'.get b4=some (.cells [.int .i64 w.hz,z11,z12,z13,z14,z15,z16,z1,z2,vr,z3,z4] false)/\OwnRws h' H.next vr css (w.routes.take k)/\(idsIn css++idOf vr).Nodup/\∀a∈idsIn css++idOf vr,P.next<=a) (λk=>w.routes.length-k) ?_ (s:=0)
  ⟨rfl,rfl,rfl,rfl,Nat.zero_le _,XHP,Nat.le_refl _,λ_ _ _=>rfl,_,[],gP,⟨OwnR.nil,rfl,λj e d he=>by simp at he⟩,by simp[idsIn,idOf],λa ha=>by simp[idsIn,idOf]at ha⟩
 rintro k tm h' ⟨w1,w2,w4,w5,hk,X,nX,kX,vr,css,gb,O,nd,hi⟩;obtain⟨T,rfl⟩:=Tm.t4 w1 w2 w4 w5;clear w1 w2 w4 w5;have vne:idOf vr≠[b4]:=λe=>by have:=hi b4 (by rw[e];simp);omega
 have vlt:=OwnR.ids O.1;by_cases c1:k<w.routes.length
 ·repeat refine W.g ?_
  refine W.ixR s9 c1 rfl rfl rfl rfl rfl rfl rfl λi_ o_ e L_ re_=> ?_;have hlen:=Rp.len re_;obtain⟨e1',e2',e3',rfl,pe1,pe2,pe3⟩:=re_;repeat (first|refine W.g ?_|refine W.m λh_ X_ n_ g_ L_=> ?_)
  obtain⟨M,rfl⟩:∃M,M=h_:=⟨_,rfl⟩;have L3:LocE M b4 0 [.int .i64 w.hz,z11,z12,z13,z14,z15,z16,z1,z2,vr,z3,z4]:=⟨_,_,(X_.old b4 (by omega)).trans gb,by omega,rfl⟩;have XM:Ext H M:=X.trans X_;have nM:M.next=h'.next+1:=n_;have sm:=fr2 _ (List.getElem_mem c1);have OM:=O.ext X_;have kM:∀a,a<P.next->a≠b4->M.get a=P.get a:=λa h1 h2=>(X_.old a (by omega)).trans (kX a h1 h2);clear g_ n_;have ds:=DX.start (XM.fr (Xh.fr fr));repeat (first|refine W.gd ?_|refine W.e λr_ h_ ds_ s_=> ?_)
  have X1:=ds_.x;have nx1:=X1.next;refine W.dcallZ ds_ rfl rfl rfl rfl (own_nt (pe1.ext (XM.trans X1)) (by omega) λg1 y1 Y1 R1=>DZ.val Y1 λq1 g1' ds1 t1=> ?_);have i1:=OwnR.ids R1;have j1:=Y1.next;have k1:=t1.next;have R1:=(R1.low (lo':=H.next) (by have:=XM.next;omega)).ext t1.ext;obtain⟨p1,m1,c1',x1,ee1⟩:=R1.form;rw[ee1];clear ds_ ds;repeat (first|refine W.gd ?_|refine W.e λr_ h_ ds_ s_=> ?_)
  have kk2:=s_.next;have R1:=R1.ext s_.ext;have X2:=ds_.x;have nx2:=X2.next;refine W.dcallZ ds_ rfl rfl rfl rfl (own_int (pe2.ext (XM.trans X2)) (by omega) λg2 y2 Y2 R2=>DZ.val Y2 λq2 g2' ds2 t2=> ?_);have i2:=OwnR.ids R2;have j2:=Y2.next;have k2:=t2.next;have R1:=(R1.ext Y2).ext t2.ext;have R2:=(R2.low (lo':=H.next) (by have:=XM.next;omega)).ext t2.ext;obtain⟨p2,m2,c2',x2,ee2⟩:=R2.form;rw[ee2];clear ds_ ds1;repeat (first|refine W.gd ?_|refine W.e λr_ h_ ds_ s_=> ?_)
  have kk3:=s_.next;have R1:=R1.ext s_.ext;have R2:=R2.ext s_.ext;have X3:=ds_.x;have nx3:=X3.next;refine W.dcallZ ds_ rfl rfl rfl rfl (own_int (pe3.ext (XM.trans X3)) (by omega) λg3 y3 Y3 R3=>DZ.val Y3 λq3 g3' ds3 t3=> ?_);have i3:=OwnR.ids R3;have j3:=Y3.next;have k3:=t3.next;have R1:=(R1.ext Y3).ext t3.ext;have R2:=(R2.ext Y3).ext t3.ext;have R3:=(R3.low (lo':=H.next) (by have:=XM.next;omega)).ext t3.ext;obtain⟨p3,m3,c3',x3,ee3⟩:=R3.form;rw[ee3];clear ds_ ds2;repeat refine W.gd ?_
  rw[<-ee1,<-ee2,<-ee3];have OE:OwnRW g3' H.next [y1,y2,y3] w.routes[k]:=⟨_,_,_,rfl,R1,R2,R3⟩
  have nd2:(idsOf [y1,y2,y3]).Nodup:=by
   show(idOf y1++(idOf y2++(idOf y3++[]))).Nodup;rw[List.append_nil];refine nodup_behind (n:=g1.next) (OwnR.idNodup _) (λa ha=>(i1 a ha).2) (nodup_behind (n:=g2.next) (OwnR.idNodup _) (λa ha=>(i2 a ha).2) (OwnR.idNodup _) (λb hb=>by have:=(i3 b hb).1;omega)) (λb hb=> ?_);rcases List.mem_append.1 hb with hb|hb
   ·have:=(i2 b hb).1;omega
   ·have:=(i3 b hb).1;omega
  have OEi:∀a∈idsOf [y1,y2,y3],M.next<=a/\a<g3'.next:=λa ha=>by
   have ha:a∈idOf y1++(idOf y2++(idOf y3++[])):=ha;simp only[List.mem_append,List.not_mem_nil,or_false]at ha;rcases ha with ha|ha|ha
   ·have:=i1 a ha;omega
   ·have:=i2 a ha;omega
   ·have:=i3 a ha;omega
  refine W.dnewZ ds3 rfl rfl rfl rfl λq4 g4 ds4 x4 n4 gg4=> ?_;have gg4:g4.get g3'.next=some (.cells [y1,y2,y3] false):=gg4;skip;have XF:=ds4.x;have nXF:=XF.next;have S_:SlG g4 3 (.slice (some (g3'.next,0)) 1 1 0) [[y1,y2,y3]]:=SlG.one (by omega) gg4;have hcl:css.length=k:=by rw[O.2.1,List.length_take];omega
  refine W.apD (H:=H) (z:=3) ds4.hri (XM.trans XF) (OM.1.ext XF) S_ rfl rfl rfl rfl rfl rfl rfl rfl rfl rfl rfl rfl rfl (by
   simp only[List.length_cons,List.length_nil];show _*72<=_;omega) λq5 v' g5 hr5 X5 n5 k5 O5 _ i5=> ?_
  have i5:=i5 (by simp);have gb5:g5.get b4=some (.cells [.int .i64 w.hz,z11,z12,z13,z14,z15,z16,z1,z2,vr,z3,z4] false):=(k5 b4 (by omega) (.inr vne)).trans ((XF.old b4 (by omega)).trans ((X_.old b4 (by omega)).trans gb));obtain⟨pv,nv,cv,xv,ev⟩:=O5.form;have hcells:v'.cells=some [v']:=by rw[ev];rfl
  rw[ev];repeat refine W.gd ?_
  rw[<-ev];refine W.dst (vs:=[v']) (cs':=[.int .i64 w.hz,z11,z12,z13,z14,z15,z16,z1,z2,v',z3,z4]) hr5 rfl rfl rfl rfl hcells rfl rfl gb5 rfl λq6 g6 hr6 s6'=> ?_;have gb6:g6.get b4=some (.cells [.int .i64 w.hz,z11,z12,z13,z14,z15,z16,z1,z2,v',z3,z4] false):=by rw[s6'.get,put_same]
  have n6:g6.next=g5.next:=s6'.next;have kk6:∀k,k≠b4->g6.get k=g5.get k:=λk hk=>by rw[s6'.get,Heap.get_put,if_neg (Ne.symm hk)]
  have X6:Ext H g6:=Ext.store X5 n6 kk6 (by omega) (by omega);repeat refine W.gd ?_
  repeat refine W.g ?_
  have nnd:=List.nodup_append.1 nd;have hout:∀a,a<g4.next->a≠b4->a∉idOf vr->g6.get a=g4.get a:=λa h1 h2 h3=>(kk6 a h2).trans (k5 a h1 (.inr λe=>h3 (by rw[e];simp)));refine⟨k+1,lessN c1,rfl,rfl,rfl,rfl,c1,X6,by omega,λa h1 h2=>(hout a (by omega) h2 λhv=>by have:=hi a (List.mem_append_right _ hv);omega).trans ((XF.old a (by omega)).trans (kM a h1 h2)),v',css++[[y1,y2,y3]],gb6,⟨O5.other (Nat.le_of_eq n6.symm) λa _ _ ha=>kk6 a (λe=> ?_),by rw[List.length_append,hcl,List.length_take];simp;omega,λj e d he hd=> ?_⟩,?_,?_⟩
  ·rw[i5]at ha
   have:g4.next=a:=by simpa using ha
   omega
  ·by_cases hj:j<k
   ·rw[List.getElem?_append_left (by omega)]at he
    have hd2:(w.routes.take k)[j]? =some d:=by
     rw[List.getElem?_take,if_pos hj];rw[List.getElem?_take,if_pos (by omega)]at hd;exact hd
    have o:=(OM.2.2 j e d he hd2).ext XF;refine o.other (by omega) λa ha=>hout a ?_ ?_ ?_
    ·have:=(o.ids a ha).2;omega
    ·have:=hi a (List.mem_append_left _ (List.mem_flatMap.2 ⟨e,List.mem_of_getElem? he,ha⟩));omega
    ·exact λhv=>nnd.2.2 a (List.mem_flatMap.2 ⟨e,List.mem_of_getElem? he,ha⟩) a hv rfl
   ·have hj2:j=k:=by
      have:=(List.getElem?_eq_some_iff.1 he).1;simp only[List.length_append,List.length_cons,List.length_nil]at this;omega
    subst hj2;rw[List.getElem?_append_right (by omega),hcl,Nat.sub_self]at he;have he:[y1,y2,y3]=e:=by simpa using he
    subst he;rw[List.getElem?_take,if_pos (by omega),List.getElem?_eq_getElem c1]at hd;have hd:=Option.some.inj hd;subst hd;have o:=OE.ext x4;refine o.other (by omega) λa ha=>hout a ?_ ?_ ?_
    ·have:=(OEi a ha).2;omega
    ·have:=(OEi a ha).1;omega
    ·intro hv
     have:=(vlt a hv).2;have:=(OEi a ha).1;omega
  ·rw[i5]
   show(List.flatMap idsOf (css++[_])++_).Nodup;rw[List.flatMap_append,List.append_assoc];refine nodup_behind (n:=h'.next) nnd.1 (λa ha=>(O.idsI a ha).2) (nodup_behind (n:=g4.next) (by simpa using nd2) (λa ha=> ?_) (by simp) (λb hb=>by rw[List.mem_singleton.1 hb];exact Nat.le_refl _)) (λb hb=> ?_)
   ·have:=(OEi a (by simpa using ha)).2;omega
   ·rcases List.mem_append.1 hb with hb|hb
    ·have:=(OEi b (by simpa using hb)).1;omega
    ·rw[List.mem_singleton.1 hb];omega
  ·intro a ha
   rw[i5]at ha;have ha:a∈List.flatMap idsOf (css++[_])++_:=ha;rw[List.flatMap_append]at ha;simp only[List.mem_append]at ha;rcases ha with(ha|ha)|ha
   ·exact hi a (List.mem_append_left _ ha)
   ·have:=(OEi a (by simpa using ha)).1;omega
   ·rw[List.mem_singleton.1 ha];omega
 ·have ek:k=w.routes.length:=by omega
  have L3:LocE h' b4 0 [.int .i64 w.hz,z11,z12,z13,z14,z15,z16,z1,z2,vr,z3,z4]:=⟨_,_,gb,by omega,rfl⟩;repeat refine W.g ?_
  refine W.stn (vs:=[.int .i64 w.hz,z11,z12,z13,z14,z15,z16,z1,z2,vr,z3,z4]) (cs':=[.int .i64 w.hz,z11,z12,z13,z14,z15,z16,z1,z2,vr,z3,z4]) rfl rfl rfl rfl rfl rfl ((X.old Ha.next haH).trans g0) rfl λK2 nx gk kx=> ?_;repeat refine W.g ?_
  refine BodyQ.cell1 rfl rfl gk rfl rfl ?_;have nX':=X.next;have nHa:h.next<=Ha.next:=by omega
  rw[ek,List.take_length]at O;have vlt:=OwnR.ids O.1;have oi:=O.idsI
  have OK2:OwnRws K2 H.next vr css w.routes:=O.other (by omega) λa ha=>kx a (by
   rcases List.mem_append.1 ha with ha|ha
   ·have:=(vlt a ha).1;omega
   ·have:=(oi a ha).1;omega)
  have GK:OwnG K2 (Ha.next+1) (flatW w z1 z2 z3 z4 z11 z12 z13 z14 z15 z16) []:=GF.keep (by omega) λa ha=>by
   have h1:=GF.lt a ha;rw[List.append_nil]at ha;rw[kx a (by omega)];exact kX a (GFb a ha) (GFn a ha)
  refine q K2 _ _ _ _ _ _ _ _ _ _ _ _ (Ext.store (Xh.trans X) nx kx nHa (by omega)) ⟨rfl,css,OK2.low (by omega),⟨λr hr=> ?_,?_,λa ha=> ?_⟩⟩
  ·rcases List.mem_append.1 hr with hr|hr
   ·exact(GK.o r hr).low (by omega)
   ·rw[List.mem_singleton.1 hr];exact OK2.1.low (by omega)
  ·have hnd:=List.nodup_append.1 nd
   have e:idsR (flatW w z1 z2 z3 z4 z11 z12 z13 z14 z15 z16++[(3,vr,css)])++idsIn css=idsR (flatW w z1 z2 z3 z4 z11 z12 z13 z14 z15 z16)++(idOf vr++idsIn css):=by
    unfold idsR;rw[List.flatMap_append,List.append_assoc];simp
   rw[e];have g1:=GK.nd;rw[List.append_nil]at g1;refine nodup_behind (n:=P.next) g1 GFb (List.nodup_append.2 ⟨hnd.2.1,hnd.1,λa ha b hb e=>hnd.2.2 b hb a ha e.symm⟩) (λb hb=>hi b ?_);rcases List.mem_append.1 hb with hb|hb
   ·exact List.mem_append_right _ hb
   ·exact List.mem_append_left _ hb
  ·have:=oi a ha
   exact⟨by omega,by omega⟩
end
end Go.Proofs.YtfheibkikpefkaaGreatDoor
