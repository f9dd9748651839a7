/- Make of Sheet is the world, Sheet of Make the sheet: the law's own function. No condition but that the table of spaces lies where it does and memory beyond the next number is empty. -/
import Derived.Test.YtmgpjfnlciapkaaGreatDoorXG
import Derived.Test.YtmgpjfnlciapkaaGreatDoorYZ
import Derived.Test.YtmgpjfnlciapkaaGreatDoorZH
import Derived.Test.YtmgpjfnlciapkaaGreatDoorZYf
import Derived.Test.YtmgpjfnlciapkaaGreatDoorZN
import Derived.Test.YtmgpjfnlciapkaaGreatDoorXMa
import Derived.Test.YtmgpjfnlciapkaaGreatDoorCmZd
set_option linter.unusedVariables false
set_option linter.unusedSimpArgs false
namespace Go.Proofs.YtmgpjfnlciapkaaGreatDoor
open Go Go.CM Go.CM.Tt
noncomputable section
set_option maxHeartbeats 40000000
set_option maxRecDepth 100000
theorem _root_.Go.CM.W.dlnS {E:Env} {tm:Tm} {h H:Heap} {Q:R->Prop} {all rest:List Oper} {o:Oper} {bs:List Bits} {recs:List Rec} {i:Nat} {α:Type} [Rp α] {l:List α} {c:Call} {t e:TypeId} {s:TyS} {v:CV} (sl:Sl H v l)
  (hgd:guardOn all tm o=some true) (hop:o.op= .call c) (hb:c.callee= .builtin .len) (hty:c.argTypes.toList=[t]) (ha:c.args.toList.map (cvOf E.globs tm)=[v]) (hts:E.ty t=some s) (hk:s.kind= .slice e)
  (w:W E (.draw bs all rest (i+1) recs) (putTmp tm o.dst (.int .i64 (l.length:Int))) h Q):W E (.draw bs all (o::rest) i recs) tm h Q:=by
 have hl:=sl.lenOf
 refine W.dop hgd (v:= .int .i64 (l.length:Int)) ?_ ?_ w
 ·unfold fpAny
  rw[hop]
  simp only[fpOf,hb]
  rw[ha]
  rcases hl with⟨rfl,_⟩|⟨p,c',x,rfl⟩<;>rfl
 ·unfold opAny
  rw[hop]
  simp only[hb]
  show builtinV E _ .len c.argTypes.toList (c.args.toList.map (cvOf E.globs tm))=_
  rw[hty,ha]
  rcases hl with⟨rfl,hz⟩|⟨p,c',x,rfl⟩
  ·simp[builtinV,lenV,hts,hk,hz];rfl
  ·simp[builtinV,lenV,hts,hk];rfl
theorem lightShort {x:SheetD} (li:x.light):x.short:=by
 have ls:=li.slim
 obtain⟨l1,l2,l3,l4,l5,l6,_⟩:=li
 refine⟨by omega,by omega,by omega,by omega,by omega,by omega,λr hr=> ?_⟩
 have:=ls r hr
 omega
theorem back_w {h:Heap} {tm:Tm} {cs:List CV} {x:SheetD} (r:Rp.R h cs x) (rh:RH h) (fr:Fresh h):W E1 (.call (.fn 5 [] []) [.agg cs]) tm h (λr=>∃h',r= .val (.bool true) h'):=by
 have r0:=r
 obtain⟨v1,v2,v3,v4,v5,v6,rfl,s1,s2,s3,s4,s5,s6⟩:=r
 refine W.fn (s:=fnOf Tryz.f5) rfl rfl rfl rfl ?_
 repeat (refine W.seq ?_)
 refine W.region ?_
 refine W.box rfl rfl rfl λH1 X1 n1 g1 L1=> ?_
 refine W.g ?_
 refine W.call rfl rfl rfl (W.known rfl (rh.ext X1).1 ?_)
 refine W.g ?_
 refine W.call rfl rfl rfl (lightSheet_w (Rp.ext X1 r0) λH2 b X2 hb=> ?_)
 have Y2:=X1.trans X2
 have L2:=L1.ext X2
 cases b
 ·refine W.g ?_
  exact⟨_,rfl⟩
 have li:=hb.1 rfl
 refine W.k3 1 2 21 λT=> ?_
 clear hb L1
 refine W.g ?_
 refine W.call rfl rfl rfl (make_w (Rp.ext Y2 r0) (rh.ext Y2) (Y2.fr fr) li.slim λH3 c3 X3 r3=> ?_)
 have r30:=r3
 obtain⟨u1,u2,u3,u4,u5,u6,u7,u8,u9,u10,u11,rfl,_⟩:=r3
 have Y3:=Y2.trans X3
 have L3:=L2.ext X3
 refine W.k3 1 2 25 λT=> ?_
 clear L2
 repeat (first|refine W.g ?_|refine W.m λh_ X_ n_ g_ L_=> ?_)
 rename_i H4 X4 n4 g4 L4
 clear L4 L_
 refine W.stn (vs:=[.int .i64 x.make.1.hz,u1,u2,u3,u4,u5,u6,u7,u8,u9,u10,u11]) (cs':=[.int .i64 x.make.1.hz,u1,u2,u3,u4,u5,u6,u7,u8,u9,u10,u11]) rfl rfl rfl rfl rfl rfl ((X_.old H3.next (by omega)).trans g4) rfl λH5 n5 g5 k5=> ?_
 refine W.stn (vs:=x.make.2.enc) (cs':=x.make.2.enc) rfl rfl rfl rfl rfl rfl ((k5 H4.next (by omega)).trans g_) rfl λH6 n6 g6 k6=> ?_
 have Lw:LocE H6 H3.next 0 [.int .i64 x.make.1.hz,u1,u2,u3,u4,u5,u6,u7,u8,u9,u10,u11]:=⟨_,_,(k6 _ (by omega)).trans g5,by omega,rfl⟩
 have Le:LocE H6 H4.next 0 x.make.2.enc:=⟨_,_,g6,by omega,rfl⟩
 have Y6:Ext H3 H6:=Ext.store (Ext.store (X4.trans X_) n5 k5 (by omega) (by omega)) n6 k6 (by omega) (by omega)
 have L1:=L3.ext Y6
 have Z6:=Y3.trans Y6
 have rw6:=Rp.ext Y6 r30
 obtain⟨c7,hc7⟩:∃c7,c7=H3.next:=⟨_,rfl⟩
 rw[<-hc7]at Lw ⊢
 obtain⟨hz0,hhz⟩:∃z,z=x.make.1.hz:=⟨_,rfl⟩
 rw[<-hhz]at Lw rw6
 clear g4 X4 X_ g_ n_ g5 k5 n5 g6 k6 n6 L3 r30
 refine W.k4 1 2 3 4 λT=> ?_
 by_cases e0:¬x.make.2.err=0
 ·have en:=SheetD.make_none e0
  rw[en]at rw6
  refine W.g ?_
  refine W.call rfl rfl rfl (wsame_w (w:=WorldD.none) (Z6.fr fr) rw6 ⟨_,_,_,_,_,_,_,_,_,_,_,rfl,Sl.nil,Sl.nil,Sl.nil,Sl.nil,Sl.nil,Sl.nil,Sl.nil,Sl.nil,Sl.nil,Sl.nil,Sl.nil⟩ (by refine⟨?_,?_,?_,?_,?_,?_,?_,?_,?_,?_,?_,λr hr=>by cases hr⟩<;>exact Nat.zero_le _) λH7 X7=> ?_)
  refine W.g ?_
  exact⟨_,rfl⟩
 have e:x.make.2.err=0:=Decidable.not_not.1 e0
 clear e0
 have fit:=fit_of_make e
 have em:=fit.make
 rw[em]at rw6
 have rw6:Rp.R H6 [.int .i64 hz0,u1,u2,u3,u4,u5,u6,u7,u8,u9,u10,u11] x.num:=rw6
 have small:=fit.ok.numSmall
 have tsl:x.num.whole->x.num.told.slim:=λ_=>by rw[fit.told];exact li.slim
 refine W.g ?_
 refine W.call rfl rfl rfl (wsheet_w rw6 (rh.ext Z6) (Z6.fr fr) small tsl λH7 c8 X7 r7=> ?_)
 rw[fit.sheet]at r7 ⊢
 have r7:Rp.R H7 c8 x:=r7
 have r70:=r7
 obtain⟨y1,y2,y3,y4,y5,y6,rfl,_⟩:=r7
 have L1:=L1.ext X7
 have Lw:=Lw.ext X7
 have rw7:=Rp.ext X7 rw6
 have Z7:=Z6.trans X7
 clear Le
 refine W.k4 1 2 3 36 λT=> ?_
 repeat (first|refine W.g ?_|refine W.m λh_ X_ n_ g_ L_=> ?_)
 have Ly:LocE h_ H7.next 0 [.int .i64 x.hz,y1,y2,y3,y4,y5,y6]:=L_
 have L1:=L1.ext X_
 have Lw:=Lw.ext X_
 have rw8:=Rp.ext X_ rw7
 have ry8:=Rp.ext X_ r70
 have Z8:=Z7.trans X_
 obtain⟨K8,hK8⟩:∃K8,K8=h_:=⟨_,rfl⟩
 rw[<-hK8]at Ly L1 Lw rw8 ry8 Z8 ⊢
 clear g_ L_ X_
 refine W.call rfl rfl rfl (make_w ry8 (rh.ext Z8) (Z8.fr fr) li.slim λH9 c9 X9 r9=> ?_)
 rw[em]at r9 ⊢
 have r9:Rp.R H9 c9 x.num:=r9
 have r90:=r9
 obtain⟨z1,z2,z3,z4,z5,z6,z7,z8,z9,z10,z11,rfl,_⟩:=r9
 have Z9:=Z8.trans X9
 have L1:=L1.ext X9
 have Lw:=Lw.ext X9
 have Ly:=Ly.ext X9
 have rw9:=Rp.ext X9 rw8
 have ry9:=Rp.ext X9 ry8
 refine W.k6 1 2 3 5 6 41 λT=> ?_
 repeat (first|refine W.g ?_|refine W.m λh_ X_ n_ g_ L_=> ?_)
 rename_i M2 j2 q2 g2 l2
 clear l2 L_
 have g2:=(X_.old H9.next (by omega)).trans g2
 refine W.stn (vs:=[.int .i64 x.num.hz,z1,z2,z3,z4,z5,z6,z7,z8,z9,z10,z11]) (cs':=[.int .i64 x.num.hz,z1,z2,z3,z4,z5,z6,z7,z8,z9,z10,z11]) rfl rfl rfl rfl rfl rfl g2 rfl λM4 m4 h4 k4=> ?_
 refine W.stn (vs:=Wrong0.enc) (cs':=Wrong0.enc) rfl rfl rfl rfl rfl rfl ((k4 M2.next (by omega)).trans g_) rfl λM5 m5 h5 k5=> ?_
 have J5:Ext H9 M5:=Ext.store (Ext.store (j2.trans X_) m4 k4 (by omega) (by omega)) m5 k5 (by omega) (by omega)
 have Lv:LocE M5 H9.next 0 [.int .i64 x.num.hz,z1,z2,z3,z4,z5,z6,z7,z8,z9,z10,z11]:=⟨_,_,(k5 _ (by omega)).trans h4,by omega,rfl⟩
 have Lg:LocE M5 M2.next 0 Wrong0.enc:=⟨_,_,h5,by omega,rfl⟩
 have Z5:=Z9.trans J5
 have L1:=L1.ext J5
 have Lw:=Lw.ext J5
 have Ly:=Ly.ext J5
 have rw5:=Rp.ext J5 rw9
 have ry5:=Rp.ext J5 ry9
 have rv5:=Rp.ext J5 r90
 clear X_ g2 g_ h4 h5 k4 k5 j2
 refine W.k7 1 2 3 5 6 7 8 λT=> ?_
 refine W.g ?_
 refine W.call rfl rfl rfl (check_w rw5 (rh.ext Z5) (Z5.fr fr) small tsl λN1 V1=> ?_)
 rw[fit.check]
 have Z1:=Z5.trans V1
 have L1:=L1.ext V1
 have Lw:=Lw.ext V1
 have Ly:=Ly.ext V1
 have Lv:=Lv.ext V1
 have Lg:=Lg.ext V1
 refine W.k8 1 2 3 5 6 7 8 45 λT=> ?_
 refine W.g ?_
 refine W.call rfl rfl rfl (sheetEq_w (Z1.fr fr) (Rp.ext Z1 r0) (Rp.ext V1 ry5) (lightShort li) λN2 V2=> ?_)
 have Z2:=Z1.trans V2
 have L1:=L1.ext V2
 have Lw:=Lw.ext V2
 have Lv:=Lv.ext V2
 clear Lg Ly
 refine W.k5 1 3 7 57 60 λT=> ?_
 refine W.g ?_
 refine W.call rfl rfl rfl (world_w (Z2.fr fr) (Rp.ext (V1.trans V2) rw5) (Rp.ext (V1.trans V2) rv5) (SheetD.num_short fit.ok) λN3 V3=> ?_)
 have Z3:=Z2.trans V3
 have L1:=L1.ext V3
 have Lw:=Lw.ext V3
 have rwK:=Rp.ext ((V1.trans V2).trans V3) rw5
 clear Lv
 refine W.k4 1 3 63 66 λT=> ?_
 refine W.g ?_
 clear r90 rv5
 obtain⟨K,hK⟩:∃K,K=N3:=⟨_,rfl⟩
 rw[<-hK]at Z3 L1 Lw rwK ⊢
 have frK:=Z3.fr fr
 have shn:∀l∈x.num.names.lists,l.length<=1099511627776:=λl hl=>by
  have:=len_le_flatten hl
  have:=fit.ok.numFew
  omega
 obtain⟨_,_,_,_,_,_,_,_,_,_,_,ee,t1,t2,t3,t4,t5,t6,t7,t8,t9,t10,t11⟩:=id rwK
 cases ee
 have e7:x.num.paths.length=x.paths.length:=by simp[SheetD.num]
 obtain⟨b1,b2,b3,b4,b5,b6,_⟩:=id li
 have e10:x.num.trips.length=x.trips.length:=by simp[SheetD.num]
 refine W.k3 1 3 9 λT=> ?_
 refine W.loop (σ:=Nat) (λk tm h'=>Ext K h'/\tm.look 1= .ptr (some (h.next,0))/\tm.look 3= .ptr (some (c7,0))/\tm.look 9= .int .i64 (k:Int)/\k<=x.stops.length) (λk=>x.stops.length-k) ?_ (s:=0) ⟨Ext.refl _,rfl,rfl,rfl,Nat.zero_le _⟩
 rintro k tm h' ⟨X,w1,w3,w9,hk⟩
 obtain⟨T,rfl⟩:=Tm.t3 w1 w3 w9
 clear w1 w3 w9
 by_cases c1:k<x.stops.length
 ·refine W.g ?_
  have ds:=DX.start (X.fr frK)
  repeat (first|refine W.gd ?_|refine W.e λr_ h_ ds_ s_=> ?_)
  refine W.dixF s1 c1 rfl rfl rfl rfl rfl rfl rfl λi1 o1 M1=> ?_
  repeat refine W.e λr_ h_ ds_ s_=> ?_
  have XX:=X.trans ds_.x
  refine W.dcallZ ds_ rfl rfl rfl rfl (find_w (XX.fr frK) (Rp.ext XX rwK) x.stops[k] shn λJ1 Y1=>DZ.val Y1 λr1 J2 ds1 s1'=> ?_)
  rw[fit.findStop c1]
  refine W.gd ?_
  refine W.g ?_
  exact⟨k+1,lessN c1,X.trans ds1.x,rfl,rfl,rfl,c1⟩
 refine W.g ?_
 refine W.k3 1 3 12 λT=> ?_
 obtain⟨K1,hK1⟩:∃K1,K1=h':=⟨_,rfl⟩
 have XK1:Ext K K1:=by rw[hK1];exact X
 rw[<-hK1]
 have frK0:=frK
 clear X
 refine W.loop (σ:=Nat) (λk tm h'=>Ext K h'/\tm.look 1= .ptr (some (h.next,0))/\tm.look 3= .ptr (some (c7,0))/\tm.look 12= .int .i64 (k:Int)/\k<=x.paths.length) (λk=>x.paths.length-k) ?_ (s:=0) ⟨XK1,rfl,rfl,rfl,Nat.zero_le _⟩
 rintro k tm h' ⟨X,w1,w3,w12,hk⟩
 obtain⟨T,rfl⟩:=Tm.t3 w1 w3 w12
 clear w1 w3 w12
 by_cases c1:k<x.paths.length
 ·obtain⟨ja,hja,ea,eb⟩:=fit.pathAt c1
  have c2:k<x.num.paths.length:=by omega
  have ep:(Flat.enc x.num.paths[k]:List CV)=[.int .i64 (ja:Int),.int .i64 (place x.stops x.paths[k].b),.int .i64 x.paths[k].len]:=by
   have:x.num.paths[k]=PathS.num x.stops x.paths[k]:=by simp[SheetD.num]
   rw[this]
   show[CV.int .i64 (place x.stops x.paths[k].a),.int .i64 (place x.stops x.paths[k].b),.int .i64 x.paths[k].len]=_
   rw[ea]
  have fk:=frK0
  refine W.g ?_
  have ds:=DX.start (X.fr fk)
  repeat (first|refine W.gd ?_|refine W.e λr_ h_ ds_ s_=> ?_)
  refine W.dixF s2 c1 rfl rfl rfl rfl rfl rfl rfl λi1 o1 M1=> ?_
  repeat (first|refine W.gd ?_|refine W.e λr_ h_ ds_ s_=> ?_)
  have XX:=X.trans ds_.x
  refine W.dcallZ ds_ rfl rfl rfl rfl (find_w (XX.fr fk) (Rp.ext XX rwK) x.paths[k].name shn λJ1 Y1=>DZ.val Y1 λr1 J2 ds1 s1'=> ?_)
  rw[fit.findPath c1]
  refine W.gd ?_
  have XJ:Ext K J2:=X.trans ds1.x
  clear ds ds_ ds1 M1
  refine W.k5 1 3 12 13 14 λT=> ?_
  refine W.g ?_
  have ds:=DX.start (XJ.fr fk)
  repeat (first|refine W.gd ?_|refine W.e λr_ h_ ds_ s_=> ?_)
  refine W.dlnS t7 rfl rfl rfl rfl rfl rfl rfl ?_
  repeat (first|refine W.gd ?_|refine W.e λr_ h_ ds_ s_=> ?_)
  refine W.dlnS s2 rfl rfl rfl rfl rfl rfl rfl ?_
  repeat (first|refine W.gd ?_|refine W.e λr_ h_ ds_ s_=> ?_)
  refine W.dixF t7 c2 rfl rfl rfl rfl rfl rfl rfl λi2 o2 M2=> ?_
  replace M2:=show LocE K i2 o2 [.int .i64 (ja:Int),.int .i64 (place x.stops x.paths[k].b),.int .i64 x.paths[k].len]from by rw[<-ep];exact M2
  repeat (first|refine W.gd ?_|refine W.e λr_ h_ ds_ s_=> ?_)
  refine W.dixF t7 c2 rfl rfl rfl rfl rfl rfl rfl λi3 o3 M3=> ?_
  replace M3:=show LocE K i3 o3 [.int .i64 (ja:Int),.int .i64 (place x.stops x.paths[k].b),.int .i64 x.paths[k].len]from by rw[<-ep];exact M3
  repeat (first|refine W.gd ?_|refine W.e λr_ h_ ds_ s_=> ?_)
  refine W.dlnS s1 rfl rfl rfl rfl rfl rfl rfl ?_
  repeat (first|refine W.gd ?_|refine W.e λr_ h_ ds_ s_=> ?_)
  refine W.dixF t7 c2 rfl rfl rfl rfl rfl rfl rfl λi4 o4 M4=> ?_
  replace M4:=show LocE K i4 o4 [.int .i64 (ja:Int),.int .i64 (place x.stops x.paths[k].b),.int .i64 x.paths[k].len]from by rw[<-ep];exact M4
  repeat (first|refine W.gd ?_|refine W.e λr_ h_ ds_ s_=> ?_)
  refine W.dixF s1 hja rfl rfl rfl rfl rfl rfl rfl λi5 o5 M5=> ?_
  repeat (first|refine W.gd ?_|refine W.e λr_ h_ ds_ s_=> ?_)
  refine W.dixF s2 c1 rfl rfl rfl rfl rfl rfl rfl λi6 o6 M6=> ?_
  repeat (first|refine W.gd ?_|refine W.e λr_ h_ ds_ s_=> ?_)
  rw[show bytesEq x.stops[ja] x.paths[k].a=true by rw[eb,bytesEq_eq];simp]
  skip
  refine W.g ?_
  exact⟨k+1,lessN c1,XJ.trans ds_.x,rfl,rfl,rfl,c1⟩
 refine W.g ?_
 refine W.k3 1 3 15 λT=> ?_
 have XK2:Ext K h':=X
 clear X
 refine W.loop (σ:=Nat) (λk tm h'=>Ext K h'/\tm.look 1= .ptr (some (h.next,0))/\tm.look 3= .ptr (some (c7,0))/\tm.look 15= .int .i64 (k:Int)/\k<=x.trips.length) (λk=>x.trips.length-k) ?_ (s:=0) ⟨XK2,rfl,rfl,rfl,Nat.zero_le _⟩
 rintro k tm h' ⟨X,w1,w3,w15,hk⟩
 obtain⟨T,rfl⟩:=Tm.t3 w1 w3 w15
 clear w1 w3 w15
 by_cases c1:k<x.trips.length
 ·obtain⟨ja,hja,ea,eb⟩:=fit.tripAt c1
  have c2:k<x.num.trips.length:=by omega
  have ep:(Flat.enc x.num.trips[k]:List CV)=[.int .i64 (ja:Int),.int .i64 x.trips[k].frm,.int .i64 x.trips[k].evr,.int .i64 x.trips[k].untl]:=by
   have:x.num.trips[k]=TripS.num x.names.routes x.trips[k]:=by simp[SheetD.num]
   rw[this]
   show[CV.int .i64 (place x.names.routes x.trips[k].route),.int .i64 x.trips[k].frm,.int .i64 x.trips[k].evr,.int .i64 x.trips[k].untl]=_
   rw[ea]
  have fk:=frK0
  refine W.g ?_
  have ds:=DX.start (X.fr fk)
  repeat (first|refine W.gd ?_|refine W.e λr_ h_ ds_ s_=> ?_)
  refine W.dixF s5 c1 rfl rfl rfl rfl rfl rfl rfl λi1 o1 M1=> ?_
  repeat (first|refine W.gd ?_|refine W.e λr_ h_ ds_ s_=> ?_)
  have XX:=X.trans ds_.x
  refine W.dcallZ ds_ rfl rfl rfl rfl (find_w (XX.fr fk) (Rp.ext XX rwK) x.trips[k].name shn λJ1 Y1=>DZ.val Y1 λr1 J2 ds1 s1'=> ?_)
  rw[fit.findTrip c1]
  refine W.gd ?_
  have XJ:Ext K J2:=X.trans ds1.x
  clear ds ds_ ds1 M1
  refine W.k5 1 3 15 16 17 λT=> ?_
  refine W.g ?_
  have ds:=DX.start (XJ.fr fk)
  repeat (first|refine W.gd ?_|refine W.e λr_ h_ ds_ s_=> ?_)
  refine W.dlnS t10 rfl rfl rfl rfl rfl rfl rfl ?_
  repeat (first|refine W.gd ?_|refine W.e λr_ h_ ds_ s_=> ?_)
  refine W.dlnS s5 rfl rfl rfl rfl rfl rfl rfl ?_
  repeat (first|refine W.gd ?_|refine W.e λr_ h_ ds_ s_=> ?_)
  refine W.dixF t10 c2 rfl rfl rfl rfl rfl rfl rfl λi2 o2 M2=> ?_
  replace M2:=show LocE K i2 o2 [.int .i64 (ja:Int),.int .i64 x.trips[k].frm,.int .i64 x.trips[k].evr,.int .i64 x.trips[k].untl]from by rw[<-ep];exact M2
  repeat (first|refine W.gd ?_|refine W.e λr_ h_ ds_ s_=> ?_)
  refine W.dixF t10 c2 rfl rfl rfl rfl rfl rfl rfl λi3 o3 M3=> ?_
  replace M3:=show LocE K i3 o3 [.int .i64 (ja:Int),.int .i64 x.trips[k].frm,.int .i64 x.trips[k].evr,.int .i64 x.trips[k].untl]from by rw[<-ep];exact M3
  repeat (first|refine W.gd ?_|refine W.e λr_ h_ ds_ s_=> ?_)
  refine W.dlnS s4 rfl rfl rfl rfl rfl rfl rfl ?_
  repeat (first|refine W.gd ?_|refine W.e λr_ h_ ds_ s_=> ?_)
  refine W.dixF t10 c2 rfl rfl rfl rfl rfl rfl rfl λi4 o4 M4=> ?_
  replace M4:=show LocE K i4 o4 [.int .i64 (ja:Int),.int .i64 x.trips[k].frm,.int .i64 x.trips[k].evr,.int .i64 x.trips[k].untl]from by rw[<-ep];exact M4
  repeat (first|refine W.gd ?_|refine W.e λr_ h_ ds_ s_=> ?_)
  refine W.dixR s4 hja rfl rfl rfl rfl rfl rfl rfl λi5 o5 e5 M5 re5=> ?_
  obtain⟨k1,k2,k3,rfl,_⟩:=re5
  repeat (first|refine W.gd ?_|refine W.e λr_ h_ ds_ s_=> ?_)
  refine W.dixF s5 c1 rfl rfl rfl rfl rfl rfl rfl λi6 o6 M6=> ?_
  repeat (first|refine W.gd ?_|refine W.e λr_ h_ ds_ s_=> ?_)
  rw[show bytesEq x.routes[ja].name x.trips[k].route=true by rw[eb,bytesEq_eq];simp]
  skip
  refine W.g ?_
  exact⟨k+1,lessN c1,XJ.trans ds_.x,rfl,rfl,rfl,c1⟩
 refine W.g ?_
 exact⟨_,rfl⟩
end
end Go.Proofs.YtmgpjfnlciapkaaGreatDoor

noncomputable section
namespace Go.CM.Tt
open Go.CM
theorem choose_list {α β:Type} {R:α->β->Prop}:∀{xs:List α},(∀x∈xs,∃y,R x y)->∃ys:List β,ys.length=xs.length/\∀(j:Nat) (x:α) (y:β),xs[j]? =some x->ys[j]? =some y->R x y
 |[],_=>⟨[],rfl,λj x y h=>by simp at h⟩
 |x::xs,h=>by
  obtain⟨y,hy⟩:=h x (by simp)
  obtain⟨ys,h1,h2⟩:=choose_list (R:=R) (xs:=xs) λz hz=>h z (List.mem_cons_of_mem _ hz)
  refine⟨y::ys,by simp[h1],λj a b ha hb=> ?_⟩
  cases j with
  |zero=>simp at ha hb;subst ha hb;exact hy
  |succ j=>exact h2 j a b (by simpa using ha) (by simpa using hb)
theorem rep_int {h:Heap} {k:IntKind} {vs:List CV} {d:Dat} (r:Rep h (.int k) vs d):∃n,vs=[.int k n]:=by
 cases r with
 |int _ n _=>exact⟨n,rfl⟩
theorem rep_str {h:Heap} {vs:List CV} {d:Dat} (r:Rep h .str vs d):∃s:Str,vs=[.str s]:=by
 cases r with
 |str s _=>exact⟨s,rfl⟩
theorem rep_slice {h:Heap} {e:PT} {vs:List CV} {d:Dat} (r:Rep h (.slice e) vs d):∃v vss,vs=[v]/\SlG h e.size v vss/\∀u∈vss,∃d,Rep h e u d:=by
 obtain⟨v,ds,rfl,rfl⟩:∃v ds,vs=[v]/\d= .row ds:=by
  cases r with
  |nil=>exact⟨_,_,rfl,rfl⟩
  |emp=>exact⟨_,_,rfl,rfl⟩
  |row=>exact⟨_,_,rfl,rfl⟩
 obtain⟨vss,h1,h2,h3⟩:=r.sl
 refine⟨v,vss,rfl,h1,λu hu=> ?_⟩
 obtain⟨j,hj⟩:=List.getElem?_of_mem hu
 have hl:=(List.getElem?_eq_some_iff.1 hj).1
 exact⟨_,h3 j u _ hj (List.getElem?_eq_getElem (by omega))⟩
theorem rep_struct {h:Heap} {Ts:List PT} {vs:List CV} {d:Dat} (r:Rep h (.struct Ts) vs d):∃vss:List (List CV),vs=vss.flatten/\vss.length=Ts.length/\∀(j:Nat) (T:PT) (u:List CV),Ts[j]? =some T->vss[j]? =some u->∃d,Rep h T u d:=by
 cases r with
 |struct _ vss ds h1 h2 hr=>
  refine⟨vss,rfl,h1,λj T u hT hu=> ?_⟩
  have hl:=(List.getElem?_eq_some_iff.1 hT).1
  exact⟨_,hr j T u _ hT hu (List.getElem?_eq_getElem (by omega))⟩
theorem rep_sl {h:Heap} {α:Type} [Rp α] {T:PT} {vs:List CV} {d:Dat} (hz:T.size=Rp.z α) (f:∀vs d,Rep h T vs d->∃a:α,Rp.R h vs a) (r:Rep h (.slice T) vs d):∃(v:CV) (l:List α),vs=[v]/\Sl h v l:=by
 obtain⟨v,vss,rfl,h1,h2⟩:=rep_slice r
 obtain⟨l,l1,l2⟩:=choose_list (R:=λ(x:List CV) (a:α)=>Rp.R h x a) (xs:=vss) λx hx=>by
  obtain⟨d,hd⟩:=h2 x hx
  exact f x d hd
 exact⟨v,l,rfl,vss,by rw[<-hz];exact h1,l1.symm,l2⟩
theorem rep_sstr {h:Heap} {vs:List CV} {d:Dat} (r:Rep h (.slice .str) vs d):∃(v:CV) (l:List Str),vs=[v]/\Sl h v l:=rep_sl rfl (λvs d r=>rep_str r) r
theorem rep_sint {h:Heap} {vs:List CV} {d:Dat} (r:Rep h (.slice (.int .i64)) vs d):∃(v:CV) (l:List Int),vs=[v]/\Sl h v l:=rep_sl rfl (λvs d r=>rep_int r) r
def ptTimes:PT:= .struct [.int .i64,.int .i64,.int .i64]
theorem rep_times {h:Heap} {vs:List CV} {d:Dat} (r:Rep h ptTimes vs d):∃x:Times,Rp.R h vs x:=by
 obtain⟨vss,rfl,hl,hr⟩:=rep_struct r
 match vss,hl with
 |[c0,c1,c2],_=>
  obtain⟨_,r0⟩:=hr 0 _ c0 rfl rfl
  obtain⟨x0,rfl⟩:=rep_int r0
  obtain⟨_,r1⟩:=hr 1 _ c1 rfl rfl
  obtain⟨x1,rfl⟩:=rep_int r1
  obtain⟨_,r2⟩:=hr 2 _ c2 rfl rfl
  obtain⟨x2,rfl⟩:=rep_int r2
  exact⟨⟨x0,x1,x2⟩,rfl⟩
def ptPath:PT:= .struct [.str,.str,.str,.int .i64]
theorem rep_path {h:Heap} {vs:List CV} {d:Dat} (r:Rep h ptPath vs d):∃x:PathS,Rp.R h vs x:=by
 obtain⟨vss,rfl,hl,hr⟩:=rep_struct r
 match vss,hl with
 |[c0,c1,c2,c3],_=>
  obtain⟨_,r0⟩:=hr 0 _ c0 rfl rfl
  obtain⟨x0,rfl⟩:=rep_str r0
  obtain⟨_,r1⟩:=hr 1 _ c1 rfl rfl
  obtain⟨x1,rfl⟩:=rep_str r1
  obtain⟨_,r2⟩:=hr 2 _ c2 rfl rfl
  obtain⟨x2,rfl⟩:=rep_str r2
  obtain⟨_,r3⟩:=hr 3 _ c3 rfl rfl
  obtain⟨x3,rfl⟩:=rep_int r3
  exact⟨⟨x0,x1,x2,x3⟩,rfl⟩
def ptDoor:PT:= .struct [.str,.str,.str,.int .i64,ptTimes]
theorem rep_door {h:Heap} {vs:List CV} {d:Dat} (r:Rep h ptDoor vs d):∃x:DoorS,Rp.R h vs x:=by
 obtain⟨vss,rfl,hl,hr⟩:=rep_struct r
 match vss,hl with
 |[c0,c1,c2,c3,c4],_=>
  obtain⟨_,r0⟩:=hr 0 _ c0 rfl rfl
  obtain⟨x0,rfl⟩:=rep_str r0
  obtain⟨_,r1⟩:=hr 1 _ c1 rfl rfl
  obtain⟨x1,rfl⟩:=rep_str r1
  obtain⟨_,r2⟩:=hr 2 _ c2 rfl rfl
  obtain⟨x2,rfl⟩:=rep_str r2
  obtain⟨_,r3⟩:=hr 3 _ c3 rfl rfl
  obtain⟨x3,rfl⟩:=rep_int r3
  obtain⟨_,r4⟩:=hr 4 _ c4 rfl rfl
  obtain⟨x4,rt⟩:=rep_times r4
  have rt:c4=x4.enc:=rt
  subst rt
  exact⟨⟨x0,x1,x2,x3,x4⟩,rfl⟩
def ptTrip:PT:= .struct [.str,.str,.int .i64,.int .i64,.int .i64]
theorem rep_trip {h:Heap} {vs:List CV} {d:Dat} (r:Rep h ptTrip vs d):∃x:TripS,Rp.R h vs x:=by
 obtain⟨vss,rfl,hl,hr⟩:=rep_struct r
 match vss,hl with
 |[c0,c1,c2,c3,c4],_=>
  obtain⟨_,r0⟩:=hr 0 _ c0 rfl rfl
  obtain⟨x0,rfl⟩:=rep_str r0
  obtain⟨_,r1⟩:=hr 1 _ c1 rfl rfl
  obtain⟨x1,rfl⟩:=rep_str r1
  obtain⟨_,r2⟩:=hr 2 _ c2 rfl rfl
  obtain⟨x2,rfl⟩:=rep_int r2
  obtain⟨_,r3⟩:=hr 3 _ c3 rfl rfl
  obtain⟨x3,rfl⟩:=rep_int r3
  obtain⟨_,r4⟩:=hr 4 _ c4 rfl rfl
  obtain⟨x4,rfl⟩:=rep_int r4
  exact⟨⟨x0,x1,x2,x3,x4⟩,rfl⟩
def ptHaz:PT:= .struct [.str,.str,ptTimes]
theorem rep_haz {h:Heap} {vs:List CV} {d:Dat} (r:Rep h ptHaz vs d):∃x:HazS,Rp.R h vs x:=by
 obtain⟨vss,rfl,hl,hr⟩:=rep_struct r
 match vss,hl with
 |[c0,c1,c2],_=>
  obtain⟨_,r0⟩:=hr 0 _ c0 rfl rfl
  obtain⟨x0,rfl⟩:=rep_str r0
  obtain⟨_,r1⟩:=hr 1 _ c1 rfl rfl
  obtain⟨x1,rfl⟩:=rep_str r1
  obtain⟨_,r2⟩:=hr 2 _ c2 rfl rfl
  obtain⟨x2,rt⟩:=rep_times r2
  have rt:c2=x2.enc:=rt
  subst rt
  exact⟨⟨x0,x1,x2⟩,rfl⟩
def ptRoute:PT:= .struct [.str,.slice .str,.slice (.int .i64),.slice (.int .i64)]
theorem rep_route {h:Heap} {vs:List CV} {d:Dat} (r:Rep h ptRoute vs d):∃x:RouteS,Rp.R h vs x:=by
 obtain⟨vss,rfl,hl,hr⟩:=rep_struct r
 match vss,hl with
 |[c0,c1,c2,c3],_=>
  obtain⟨_,r0⟩:=hr 0 _ c0 rfl rfl
  obtain⟨x0,rfl⟩:=rep_str r0
  obtain⟨_,r1⟩:=hr 1 _ c1 rfl rfl
  obtain⟨v1,x1,rfl,s1⟩:=rep_sstr r1
  obtain⟨_,r2⟩:=hr 2 _ c2 rfl rfl
  obtain⟨v2,x2,rfl,s2⟩:=rep_sint r2
  obtain⟨_,r3⟩:=hr 3 _ c3 rfl rfl
  obtain⟨v3,x3,rfl,s3⟩:=rep_sint r3
  exact⟨⟨x0,x1,x2,x3⟩,v1,v2,v3,rfl,s1,s2,s3⟩
def ptSheet:PT:= .struct [.int .i64,.slice .str,.slice ptPath,.slice ptDoor,.slice ptRoute,.slice ptTrip,.slice ptHaz]
theorem rep_sheet {h:Heap} {vs:List CV} {d:Dat} (r:Rep h ptSheet vs d):∃x:SheetD,Rp.R h vs x:=by
 obtain⟨vss,rfl,hl,hr⟩:=rep_struct r
 match vss,hl with
 |[c0,c1,c2,c3,c4,c5,c6],_=>
  obtain⟨_,r0⟩:=hr 0 _ c0 rfl rfl
  obtain⟨x0,rfl⟩:=rep_int r0
  obtain⟨_,r1⟩:=hr 1 _ c1 rfl rfl
  obtain⟨v1,x1,rfl,s1⟩:=rep_sstr r1
  obtain⟨_,r2⟩:=hr 2 _ c2 rfl rfl
  obtain⟨v2,x2,rfl,s2⟩:=rep_sl (α:=PathS) rfl (λvs d r=>rep_path r) r2
  obtain⟨_,r3⟩:=hr 3 _ c3 rfl rfl
  obtain⟨v3,x3,rfl,s3⟩:=rep_sl (α:=DoorS) rfl (λvs d r=>rep_door r) r3
  obtain⟨_,r4⟩:=hr 4 _ c4 rfl rfl
  obtain⟨v4,x4,rfl,s4⟩:=rep_sl (α:=RouteS) rfl (λvs d r=>rep_route r) r4
  obtain⟨_,r5⟩:=hr 5 _ c5 rfl rfl
  obtain⟨v5,x5,rfl,s5⟩:=rep_sl (α:=TripS) rfl (λvs d r=>rep_trip r) r5
  obtain⟨_,r6⟩:=hr 6 _ c6 rfl rfl
  obtain⟨v6,x6,rfl,s6⟩:=rep_sl (α:=HazS) rfl (λvs d r=>rep_haz r) r6
  exact⟨⟨x0,x1,x2,x3,x4,x5,x6⟩,v1,v2,v3,v4,v5,v6,rfl,s1,s2,s3,s4,s5,s6⟩
end Go.CM.Tt

noncomputable section
namespace Go.CM
theorem envW_small2 {P:Program} {tyL:List (Nat×TyS)} {fnL:List (Nat×FnS)} {g:Nat} {kn:List KE} {rows:List (Nat×List CV)} (ht:∀p∈tyL,tyOf P p.1 p.2.cmp=some p.2/\(p.2.cmp=true->cmpB P p.1=true))
  (hf:∀p∈fnL,∃fn,P.funcs[p.1]? =some fn/\p.2=fnOf fn/\fnGood fn=true) (hm:P.follows .mixedOrders=true) (hr:rowsGood g rows=true) (hk:∀e∈kn,KnownOk P g rows e):EnvW P ⟨lk tyL,lk fnL,g,kn,rows⟩:=by
 have row:∀f s,lk fnL f=some s->∃fn,P.funcs[f]? =some fn/\s=⟨fn.ntmps,fn.results.toList,fn.body⟩/\fnGood fn=true:=by
  intro f s h
  obtain⟨fn,h1,h2,h3⟩:=hf _ (lk_mem h)
  exact⟨fn,h1,h2,h3⟩
 refine⟨⟨λt s h=> ?_,λf s h=> ?_⟩,λf s c h hb=> ?_,λf s fn h hfn=> ?_,hm,hk,λr hmm=> ?_⟩
 ·have h1:=ht _ (lk_mem h)
  exact⟨h1.1,λe=>cmpB_ok (h1.2 e)⟩
 ·obtain⟨fn,h1,rfl,_⟩:=row f s h
  exact⟨fn,h1,rfl,rfl,rfl⟩
 ·obtain⟨fn,h1,rfl,h2⟩:=row f s h
  unfold fnGood at h2
  rw[Bool.and_eq_true]at h2
  have hb:fn.body=some c:=hb
  rw[hb]at h2
  exact h2.2
 ·obtain⟨fn',h1,rfl,h2⟩:=row f s h
  rw[h1]at hfn
  cases hfn
  unfold fnGood at h2
  rw[Bool.and_eq_true]at h2
  simpa using h2.1
 ·have:=List.all_eq_true.1 hr r hmm
  rw[Bool.and_eq_true]at this
  exact⟨by have:=this.1;rw[Nat.blt_eq]at this;exact this,this.2⟩
end Go.CM
