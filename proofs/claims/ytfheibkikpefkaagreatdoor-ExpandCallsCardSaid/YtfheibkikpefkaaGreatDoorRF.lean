/- The document's answer: a sheet with numbers in the place of names. No condition but that memory beyond the next number is empty. -/
import Derived.Test.YtfheibkikpefkaaGreatDoorXU
import Derived.Test.YtfheibkikpefkaaGreatDoorRE
import Derived.Test.YtfheibkikpefkaaGreatDoorZB
set_option linter.unusedVariables false
set_option linter.unusedSimpArgs false
namespace Go.Proofs.YtfheibkikpefkaaGreatDoor
open Go Go.CM Go.CM.Tt
noncomputable section
set_option maxHeartbeats 16000000
theorem aBr {h:Heap} {tm:Tm} {Q:R->Prop} {cs:List CV} {x:SheetD} (r:Rp.R h cs x) (fr:Fresh h) (few:x.few) (sm:x.slim)
  (q:∀h' c1,Ext h h'->(∀M:Heap,h'.next<=M.next->(∀k,h.next<=k->k<h'.next->M.get k=h'.get k)->Rp.R M c1 x.num)->Q (.val (.agg c1) h')):W E1 (.call (.fn 102 [] []) [.agg cs]) tm h Q:=by
 have r0:=r;obtain⟨v1,v2,v3,v4,v5,v6,rfl,s1,s2,s3,s4,s5,s6⟩:=r;have few0:=few;obtain⟨f1,f2,f3,f4,f5,f6⟩:=few;refine W.fn (s:=aB Tryz.f102) rfl rfl rfl rfl ?_;repeat (refine W.seq ?_)
 refine W.region ?_;refine W.box rfl rfl rfl λH1 XH1 nH1 gH1 LH1=> ?_;repeat (first|refine W.g ?_|refine W.m λh_ X_ n_ g_ L_=> ?_)
 obtain⟨H,hH⟩:∃H,H=h_:=⟨_,rfl⟩;rw[<-hH]at X_ n_ g_ L_ ⊢;have XA:=X_;have nA:=n_;have gA:=g_;have LA:=L_;clear X_ n_ g_ L_ hH;have XH:Ext h H:=XH1.trans XA;have LH:=LH1.ext XA;have gR:H.get H1.next=some (.cells [.int .i64 0,.slice none 0 0 0,.slice none 0 0 0,.slice none 0 0 0,.slice none 0 0 0,.slice none 0 0 0,.slice none 0 0 0,.slice none 0 0 0,.slice none 0 0 0,.slice none 0 0 0,.slice none 0 0 0,.slice none 0 0 0] false):=gA;have t1:=s1.ext XH;have t2:=s2.ext XH;have t3:=s3.ext XH;have t4:=s4.ext XH;have t5:=s5.ext XH;have t6:=s6.ext XH;have ds:=aD (XH.fr fr);repeat (first|refine aC ?_|refine W.e λr_ h_ ds_ s_=> ?_)
 have X1:=ds_.x;refine aH ds_ rfl rfl rfl rfl (aKo (Rp.ext (XH.trans X1) r0) ((XH.trans X1).fr fr) few0 λg1 u1 u2 u3 u4 u5 u6 Y1 On=>DZ.val Y1 λq1 g2 ds1 z1=> ?_);have nX1:=X1.next;have nY1:=Y1.next;have nz1:=z1.next;repeat refine aC ?_
 refine aBd ds1 rfl rfl rfl λq2 g3 ds2 x2 n2 gg2=> ?_;obtain⟨b,hb⟩:∃b,b=g2.next:=⟨_,rfl⟩;rw[<-hb]at gg2 ⊢;refine W.dst (vs:=[.int .i64 x.hz,u1,u2,u3,u4,u5,u6,.slice none 0 0 0,.slice none 0 0 0,.slice none 0 0 0,.slice none 0 0 0,.slice none 0 0 0]) (cs':=[.int .i64 x.hz,u1,u2,u3,u4,u5,u6,.slice none 0 0 0,.slice none 0 0 0,.slice none 0 0 0,.slice none 0 0 0,.slice none 0 0 0]) ds2.hri rfl rfl rfl rfl rfl rfl rfl gg2 rfl λq3 J hr3 s3'=> ?_;repeat refine aC ?_
 have gb:J.get b=some (.cells [.int .i64 x.hz,u1,u2,u3,u4,u5,u6,.slice none 0 0 0,.slice none 0 0 0,.slice none 0 0 0,.slice none 0 0 0,.slice none 0 0 0] false):=by rw[s3'.get,aG]
 have kJ:∀k,k≠b->J.get k=g3.get k:=λk hk=>by rw[s3'.get,aA,if_neg (Ne.symm hk)]
 have nJ:J.next=g3.next:=s3'.next;have X:Ext H J:=(ds2.x.put (by omega) (by omega) _).trans s3'.ext
 have On2:OwnG J H.next (pT x.names u1 u2 u3 u4 u5 u6) []:=by
  have e:OwnG g1 H.next (pT x.names u1 u2 u3 u4 u5 u6) []:=OwnG.low On (by omega);refine e.keep (by omega) λk hk=> ?_;have hl:=(e.lt k hk).2;rw[kJ k (by omega),x2.old k (by omega),z1.get]
 have O:OwnWB J H.next b (.int .i64 x.hz) u1 u2 u3 u4 u5 u6 (.slice none 0 0 0) (.slice none 0 0 0) (.slice none 0 0 0) (.slice none 0 0 0) (.slice none 0 0 0) ⟨x.hz,x.names,[],[],[],[],[]⟩:=by
  refine aDs On2 (by omega) (by omega) λk hk=> ?_;have:=((OwnG.low On (Nat.le_refl _)).lt k (List.mem_append_left _ hk)).2;omega
 clear s1 s2 s3 s4 s5 s6 ds ds_ ds1 ds2 On On2 gA LA LH1 gH1 z1 x2 Y1 X1 s3' kJ hr3 gg2;repeat refine W.g ?_
 refine dB 1 2 3 4 λT=> ?_
 refine W.loop (σ:=Nat) (λk tm h'=>Ext H h'/\tm.look 1= .ptr (some (h.next,0))/\tm.look 2= .ptr (some (H1.next,0))/\tm.look 3= .ptr (some (b,0))/\tm.look 4= .int .i64 (k:Int)/\k<=x.paths.length/\∃v:CV,OwnWB h' H.next b (.int .i64 x.hz) u1 u2 u3 u4 u5 u6 v (.slice none 0 0 0) (.slice none 0 0 0) (.slice none 0 0 0) (.slice none 0 0 0) ⟨x.hz,x.names,(x.paths.take k).map (λp:PathS=>p.num x.stops),[],[],[],[]⟩/\h'.get b=some (.cells [.int .i64 x.hz,u1,u2,u3,u4,u5,u6,v,.slice none 0 0 0,.slice none 0 0 0,.slice none 0 0 0,.slice none 0 0 0] false)) (λk=>x.paths.length-k) ?_ (s:=0)
  ⟨Ext.x,rfl,rfl,rfl,rfl,Nat.zero_le _,_,O,gb⟩
 clear O gb X;rintro k tm h' ⟨X,w1,w2,w3,w4,hk,v,O,gb⟩;obtain⟨T,rfl⟩:=cE w1 w2 w3 w4;clear w1 w2 w3 w4;have nX:=X.next;have ltb:=O.lt;have Lb:LocE h' b 0 [.int .i64 x.hz,u1,u2,u3,u4,u5,u6,v,.slice none 0 0 0,.slice none 0 0 0,.slice none 0 0 0,.slice none 0 0 0]:=⟨_,_,gb,ltb.2,rfl⟩;by_cases c1:k<x.paths.length
 ·repeat refine W.g ?_
  have ds:=aD ((XH.trans X).fr fr);repeat (first|refine aC ?_|refine W.e λr_ h_ ds_ s_=> ?_)
  refine aE t2 c1 rfl rfl rfl rfl rfl rfl rfl λi1 o1 L1=> ?_;repeat (first|refine aC ?_|refine W.e λr_ h_ ds_ s_=> ?_)
  refine aH ds_ rfl rfl rfl rfl (fM _ (t1.ext (X.trans ds_.x)) (by omega) (DZ.val (Ext.refl _) λq1 g1 d1 z1=> ?_));clear ds_;repeat (first|refine aC ?_|refine W.e λr_ h_ ds_ s_=> ?_)
  refine aE t2 c1 rfl rfl rfl rfl rfl rfl rfl λi2 o2 L2=> ?_;repeat (first|refine aC ?_|refine W.e λr_ h_ ds_ s_=> ?_)
  refine aH ds_ rfl rfl rfl rfl (fM _ (t1.ext (X.trans ds_.x)) (by omega) (DZ.val (Ext.refl _) λq2 g2 d2 z2=> ?_));clear ds_;repeat (first|refine aC ?_|refine W.e λr_ h_ ds_ s_=> ?_)
  refine aE t2 c1 rfl rfl rfl rfl rfl rfl rfl λi3 o3 L3=> ?_;repeat (first|refine aC ?_|refine W.e λr_ h_ ds_ s_=> ?_)
  refine bB ds_ rfl rfl rfl rfl λq4 g4 ds4 x4 n4 gg4=> ?_;obtain⟨e4,he4⟩:∃e4:PathW,e4=x.paths[k].num x.stops:=⟨_,rfl⟩
  have gg4:g4.get h_.next=some (.cells (Flat.enc e4) false):=by
   rw[he4];exact gg4
  have XF:=ds4.x;have nXF:=XF.next
  have S4:SlG g4 3 (.slice (some (h_.next,0)) 1 1 0) [Flat.enc e4]:=by
   have:=SlG.one (by omega) gg4;rwa[show(Flat.enc e4).length=3 from rfl]at this
  refine dC (H:=H) (z:=3) (l2:=[Flat.enc e4]) ds4.hri (X.trans XF) (O.own_paths.1.ext XF) S4 rfl rfl rfl rfl rfl rfl rfl rfl rfl rfl rfl rfl rfl (by
   simp only[List.length_map,List.length_take,List.length_cons,List.length_nil];show _*24<=_;omega) λq5 v' g5 hr5 X5 n5 k5 O5 _ i5=> ?_
  have i5:=i5 (by simp);have gb5:=(k5 b (by omega) (.inr O.own_paths.2)).trans ((XF.old b ltb.2).trans gb);have O6:=(O.ext XF).paths (h':=g5) (l:=(x.paths.take (k+1)).map (λp:PathS=>p.num x.stops)) (u:=v') n5 k5 (by rw[iK c1,List.map_append,<-he4];exact O5) (.inr ⟨_,i5,Nat.le_refl _⟩);obtain⟨pv,nv,cv,xv,ev⟩:=O5.form;have hcells:v'.cells=some [v']:=by rw[ev];rfl
  rw[ev];repeat refine aC ?_
  rw[<-ev];refine W.dst (vs:=[v']) (cs':=[.int .i64 x.hz,u1,u2,u3,u4,u5,u6,v',.slice none 0 0 0,.slice none 0 0 0,.slice none 0 0 0,.slice none 0 0 0]) hr5 rfl rfl rfl rfl hcells rfl rfl gb5 rfl λq6 g6 hr6 s6'=> ?_;have gb6:g6.get b=some (.cells [.int .i64 x.hz,u1,u2,u3,u4,u5,u6,v',.slice none 0 0 0,.slice none 0 0 0,.slice none 0 0 0,.slice none 0 0 0] false):=by rw[s6'.get,aG]
  have k6:∀k,k≠b->g6.get k=g5.get k:=λk hk=>by rw[s6'.get,aA,if_neg (Ne.symm hk)]
  have X6:Ext H g6:=(X5.put (by omega) (by omega) _).trans s6'.ext;have O7:=O6.put s6'.next k6;repeat refine aC ?_
  repeat refine W.g ?_
  exact⟨k+1,aI c1,X6,rfl,rfl,rfl,rfl,c1,v',O7,gb6⟩
 repeat refine W.g ?_
 obtain⟨w0,hw0⟩:∃u,u=v:=⟨_,rfl⟩;rw[show k=x.paths.length by omega,List.take_length,<-hw0]at O;rw[<-hw0]at gb;clear hw0 v Lb;refine dB 1 2 3 5 λT=> ?_
 refine W.loop (σ:=Nat) (λk tm h'=>Ext H h'/\tm.look 1= .ptr (some (h.next,0))/\tm.look 2= .ptr (some (H1.next,0))/\tm.look 3= .ptr (some (b,0))/\tm.look 5= .int .i64 (k:Int)/\k<=x.doors.length/\∃v:CV,OwnWB h' H.next b (.int .i64 x.hz) u1 u2 u3 u4 u5 u6 w0 v (.slice none 0 0 0) (.slice none 0 0 0) (.slice none 0 0 0) ⟨x.hz,x.names,x.paths.map (λp:PathS=>p.num x.stops),(x.doors.take k).map (λd:DoorS=>d.num x.stops),[],[],[]⟩/\h'.get b=some (.cells [.int .i64 x.hz,u1,u2,u3,u4,u5,u6,w0,v,.slice none 0 0 0,.slice none 0 0 0,.slice none 0 0 0] false)) (λk=>x.doors.length-k) ?_ (s:=0)
  ⟨Ext.x,rfl,rfl,rfl,rfl,Nat.zero_le _,_,O,gb⟩
 clear O gb X;rintro k tm h' ⟨X,w1,w2,w3,w5,hk,v,O,gb⟩;obtain⟨T,rfl⟩:=cE w1 w2 w3 w5;clear w1 w2 w3 w5;have nX:=X.next;have ltb:=O.lt;have Lb:LocE h' b 0 [.int .i64 x.hz,u1,u2,u3,u4,u5,u6,w0,v,.slice none 0 0 0,.slice none 0 0 0,.slice none 0 0 0]:=⟨_,_,gb,ltb.2,rfl⟩;by_cases c1:k<x.doors.length
 ·repeat refine W.g ?_
  have ds:=aD ((XH.trans X).fr fr);repeat (first|refine aC ?_|refine W.e λr_ h_ ds_ s_=> ?_)
  refine aE t3 c1 rfl rfl rfl rfl rfl rfl rfl λi1 o1 L1=> ?_;repeat (first|refine aC ?_|refine W.e λr_ h_ ds_ s_=> ?_)
  refine aH ds_ rfl rfl rfl rfl (fM _ (t1.ext (X.trans ds_.x)) (by omega) (DZ.val (Ext.refl _) λq1 g1 d1 z1=> ?_));clear ds_;repeat (first|refine aC ?_|refine W.e λr_ h_ ds_ s_=> ?_)
  refine aE t3 c1 rfl rfl rfl rfl rfl rfl rfl λi2 o2 L2=> ?_;repeat (first|refine aC ?_|refine W.e λr_ h_ ds_ s_=> ?_)
  refine aH ds_ rfl rfl rfl rfl (fM _ (t1.ext (X.trans ds_.x)) (by omega) (DZ.val (Ext.refl _) λq2 g2 d2 z2=> ?_));clear ds_;repeat (first|refine aC ?_|refine W.e λr_ h_ ds_ s_=> ?_)
  refine aE t3 c1 rfl rfl rfl rfl rfl rfl rfl λi3 o3 L3=> ?_;repeat (first|refine aC ?_|refine W.e λr_ h_ ds_ s_=> ?_)
  refine aE t3 c1 rfl rfl rfl rfl rfl rfl rfl λi4 o4 L4=> ?_;repeat (first|refine aC ?_|refine W.e λr_ h_ ds_ s_=> ?_)
  refine bB ds_ rfl rfl rfl rfl λq4 g4 ds4 x4 n4 gg4=> ?_;obtain⟨e4,he4⟩:∃e4:DoorW,e4=x.doors[k].num x.stops:=⟨_,rfl⟩
  have gg4:g4.get h_.next=some (.cells (Flat.enc e4) false):=by
   rw[he4];exact gg4
  have XF:=ds4.x;have nXF:=XF.next
  have S4:SlG g4 6 (.slice (some (h_.next,0)) 1 1 0) [Flat.enc e4]:=by
   have:=SlG.one (by omega) gg4;rwa[show(Flat.enc e4).length=6 from rfl]at this
  refine dC (H:=H) (z:=6) (l2:=[Flat.enc e4]) ds4.hri (X.trans XF) (O.own_doors.1.ext XF) S4 rfl rfl rfl rfl rfl rfl rfl rfl rfl rfl rfl rfl rfl (by
   simp only[List.length_map,List.length_take,List.length_cons,List.length_nil];show _*48<=_;omega) λq5 v' g5 hr5 X5 n5 k5 O5 _ i5=> ?_
  have i5:=i5 (by simp);have gb5:=(k5 b (by omega) (.inr O.own_doors.2)).trans ((XF.old b ltb.2).trans gb);have O6:=(O.ext XF).doors (h':=g5) (l:=(x.doors.take (k+1)).map (λd:DoorS=>d.num x.stops)) (u:=v') n5 k5 (by rw[iK c1,List.map_append,<-he4];exact O5) (.inr ⟨_,i5,Nat.le_refl _⟩);obtain⟨pv,nv,cv,xv,ev⟩:=O5.form;have hcells:v'.cells=some [v']:=by rw[ev];rfl
  rw[ev];repeat refine aC ?_
  rw[<-ev];refine W.dst (vs:=[v']) (cs':=[.int .i64 x.hz,u1,u2,u3,u4,u5,u6,w0,v',.slice none 0 0 0,.slice none 0 0 0,.slice none 0 0 0]) hr5 rfl rfl rfl rfl hcells rfl rfl gb5 rfl λq6 g6 hr6 s6'=> ?_;have gb6:g6.get b=some (.cells [.int .i64 x.hz,u1,u2,u3,u4,u5,u6,w0,v',.slice none 0 0 0,.slice none 0 0 0,.slice none 0 0 0] false):=by rw[s6'.get,aG]
  have k6:∀k,k≠b->g6.get k=g5.get k:=λk hk=>by rw[s6'.get,aA,if_neg (Ne.symm hk)]
  have X6:Ext H g6:=(X5.put (by omega) (by omega) _).trans s6'.ext;have O7:=O6.put s6'.next k6;repeat refine aC ?_
  repeat refine W.g ?_
  exact⟨k+1,aI c1,X6,rfl,rfl,rfl,rfl,c1,v',O7,gb6⟩
 repeat refine W.g ?_
 obtain⟨w1,hw1⟩:∃u,u=v:=⟨_,rfl⟩;rw[show k=x.doors.length by omega,List.take_length,<-hw1]at O;rw[<-hw1]at gb;clear hw1 v Lb;refine dB 1 2 3 6 λT=> ?_
 refine W.loop (σ:=Nat) (λk tm h'=>Ext H h'/\tm.look 1= .ptr (some (h.next,0))/\tm.look 2= .ptr (some (H1.next,0))/\tm.look 3= .ptr (some (b,0))/\tm.look 6= .int .i64 (k:Int)/\k<=x.routes.length/\∃v:CV,OwnWB h' H.next b (.int .i64 x.hz) u1 u2 u3 u4 u5 u6 w0 w1 v (.slice none 0 0 0) (.slice none 0 0 0) ⟨x.hz,x.names,x.paths.map (λp:PathS=>p.num x.stops),x.doors.map (λd:DoorS=>d.num x.stops),(x.routes.take k).map (λr:RouteS=>r.num x.stops),[],[]⟩/\h'.get b=some (.cells [.int .i64 x.hz,u1,u2,u3,u4,u5,u6,w0,w1,v,.slice none 0 0 0,.slice none 0 0 0] false)) (λk=>x.routes.length-k) ?_ (s:=0)
  ⟨Ext.x,rfl,rfl,rfl,rfl,Nat.zero_le _,_,O,gb⟩
 clear O gb X;rintro k tm h' ⟨X,w1,w2,w3,w6,hk,v,O,gb⟩;obtain⟨T,rfl⟩:=cE w1 w2 w3 w6;clear w1 w2 w3 w6;have nX:=X.next;have ltb:=O.lt;have Lb:LocE h' b 0 [.int .i64 x.hz,u1,u2,u3,u4,u5,u6,w0,w1,v,.slice none 0 0 0,.slice none 0 0 0]:=⟨_,_,gb,ltb.2,rfl⟩;by_cases c1:k<x.routes.length
 ·repeat refine W.g ?_
  have st0:x.routes[k].stops.length<=1000:=(sm _ (List.getElem_mem c1)).1;have st1:x.routes[k].rides.length<=1000:=(sm _ (List.getElem_mem c1)).2.1;have st2:x.routes[k].stays.length<=1000:=(sm _ (List.getElem_mem c1)).2.2;have dy:DY (λc=>c<h'.next) h' [] []:=kT λb hb=>hb;have hbx:h.next<h'.next:=by omega
  try refine aP ?_
  refine wS (v:= .slice (some (h'.next,0)) 0 0 0) dy rfl rfl rfl rfl λr1 ha dy xa na ga=> ?_;have ga:ha.get h'.next=some (.cells [] false):=ga;try refine aP ?_
  refine gY dy hbx (LH.ext (X.trans xa)) rfl rfl rfl rfl rfl rfl rfl λr2 hb dy sb Lz=> ?_;clear Lz;try refine aP ?_
  refine dQ t4 c1 rfl rfl rfl rfl rfl rfl rfl λi1 o1 e1 L1 re=> ?_;have hi1:i1<H.next:=by obtain⟨_,_,_,g,_⟩:=L1;exact g
  obtain⟨z1,z2,z3,rfl,y1,y2,y3⟩:=re;try refine aP ?_
  refine gY (k:=2) dy (Nat.lt_of_lt_of_le hi1 nX) (L1.ext ((X.trans xa).trans sb.ext)) rfl rfl rfl rfl rfl rfl rfl λr3 hc dy sc Lz=> ?_;clear Lz;have nb:=sb.next;have nc:=sc.next;have xc:=(xa.trans sb.ext).trans sc.ext;have gc:hc.get h'.next=some (.cells [] false):=(sc.get _).trans ((sb.get _).trans ga);try refine aP ?_
  refine aBf (H:=h') (z:=1) (l:=[]) (l2:=x.routes[k].rides.map Flat.enc) dy xc (.inr ⟨h'.next,0,false,rfl,Nat.le_refl _,by omega,gc,λe he=>(by cases he),.inl ⟨rfl,.inl rfl⟩⟩) ((aU Flat.iff y2).ext (X.trans xc)) (λc hc hm=>by have:c=h'.next:=(by simpa[idOf]using hm);omega) rfl rfl rfl rfl rfl rfl rfl rfl rfl rfl rfl rfl rfl (by
   rw[List.length_map];show(0+_)*8<=_;omega) λr4 a1 hd dy Xd bd nd O1 _=> ?_
  rw[List.nil_append]at O1;have id1:=OwnR.ids O1;have nXd:=Xd.next;try refine aP ?_
  refine wS (v:= .slice (some (hd.next,0)) 0 0 0) dy rfl rfl rfl rfl λr5 he dy xe ne ge=> ?_;have ge:he.get hd.next=some (.cells [] false):=ge;try refine aP ?_
  refine gY dy hbx (LH.ext (X.trans (Xd.trans xe))) rfl rfl rfl rfl rfl rfl rfl λr6 hf dy sf Lz=> ?_;clear Lz;try refine aP ?_
  refine dQ t4 c1 rfl rfl rfl rfl rfl rfl rfl λi2 o2 e2 L2 re2=> ?_;have hi2:i2<H.next:=by obtain⟨_,_,_,g,_⟩:=L2;exact g
  obtain⟨z4,z5,z6,rfl,y4,y5,y6⟩:=re2;try refine aP ?_
  refine gY (k:=3) dy (Nat.lt_of_lt_of_le hi2 nX) (L2.ext ((X.trans (Xd.trans xe)).trans sf.ext)) rfl rfl rfl rfl rfl rfl rfl λr7 hg dy sg Lz=> ?_;clear Lz;have nf:=sf.next;have ng:=sg.next;have xg:=(xe.trans sf.ext).trans sg.ext;have gg:hg.get hd.next=some (.cells [] false):=(sg.get _).trans ((sf.get _).trans ge);try refine aP ?_
  refine aBf (H:=hd) (z:=1) (l:=[]) (l2:=x.routes[k].stays.map Flat.enc) dy xg (.inr ⟨hd.next,0,false,rfl,Nat.le_refl _,by omega,gg,λe he=>(by cases he),.inl ⟨rfl,.inl rfl⟩⟩) ((aU Flat.iff y6).ext ((X.trans Xd).trans xg)) (λc hc hm=>by have:c=hd.next:=(by simpa[idOf]using hm);omega) rfl rfl rfl rfl rfl rfl rfl rfl rfl rfl rfl rfl rfl (by
   rw[List.length_map];show(0+_)*8<=_;omega) λr8 a2 hi dy Xi bi ni O2 _=> ?_
  rw[List.nil_append]at O2;have id2:=OwnR.ids O2;have nXi:=Xi.next;obtain⟨p1,m1',c1',y1',ev1⟩:=O1.form;obtain⟨p2,m2',c2',y2',ev2⟩:=O2.form;rw[ev1,ev2];try refine aP ?_
  refine wS (v:= .ptr (some (hi.next,0))) dy rfl rfl rfl rfl λr9 hj dy xj nj gj=> ?_;try refine aP ?_
  rw[<-ev1,<-ev2];obtain⟨c7,hc7⟩:∃c,c=hi.next:=⟨_,rfl⟩;rw[<-hc7]at gj ⊢;have hca1:a1.cells=some [a1]:=by rw[ev1];rfl
  refine W.dst (vs:=[.slice none 0 0 0,a1,a2]) (cs':=[.slice none 0 0 0,a1,a2]) (λr hr=>(dy.r r hr).1) rfl rfl rfl rfl rfl rfl rfl gj rfl λq3 J hr3 s3'=> ?_;try refine aP ?_
  have gJ:J.get c7=some (.cells [.slice none 0 0 0,a1,a2] false):=by rw[s3'.get,aG]
  have kJ:∀k,k≠c7->J.get k=hj.get k:=λk hk=>by rw[s3'.get,aA,if_neg (Ne.symm hk)]
  have nJ:J.next=hj.next:=s3'.next;have XJ:Ext h' J:=(((Xd.trans Xi).trans xj).put (by omega) (by omega) _).trans s3'.ext
  have OJ:OwnG J h'.next [(1,.slice none 0 0 0,[]),(1,a1,x.routes[k].rides.map Flat.enc),(1,a2,x.routes[k].stays.map Flat.enc)] [c7]:=by
   have g1:OwnG hj h'.next [(1,.slice none 0 0 0,[]),(1,a1,x.routes[k].rides.map Flat.enc),(1,a2,x.routes[k].stays.map Flat.enc)] [c7]:=by
    refine OwnG.box (h:=hi) ⟨λr hr=> ?_,?_,λk hk=>by cases hk⟩ xj (by omega) (by omega) (by omega)
    ·simp only[List.mem_cons,List.not_mem_nil,or_false]at hr
     rcases hr with rfl|rfl|rfl
     ·exact OwnR.nil
     ·exact O1.ext Xi
     ·exact O2.low (by omega)
    ·rw[show idsR [(1,.slice none 0 0 0,[]),(1,a1,x.routes[k].rides.map Flat.enc),(1,a2,x.routes[k].stays.map Flat.enc)]++[]=idOf a1++idOf a2 by simp[idsR,idOf]]
     exact List.nodup_append.2 ⟨bH _,bH _,λa ha c hc e=>by have:=(id1 a ha).2;have:=(id2 c hc).1;omega⟩
   exact(g1.put nJ kJ).1
  have LJ:=LH.ext (X.trans XJ);clear dy ga gc ge gg gj O1 O2 kJ s3' hr3 bd bi;repeat refine W.g ?_
  refine fT 1 2 3 6 7 8 λT=> ?_
  refine W.loop (σ:=Nat) (λj tm h2=>Ext h' h2/\tm.look 1= .ptr (some (h.next,0))/\tm.look 2= .ptr (some (H1.next,0))/\tm.look 3= .ptr (some (b,0))/\tm.look 6= .int .i64 (k:Int)/\tm.look 7= .ptr (some (c7,0))/\tm.look 8= .int .i64 (j:Int)/\j<=x.routes[k].stops.length/\∃u:CV,OwnG h2 h'.next [(1,u,((x.routes[k].stops.take j).map (place x.stops)).map Flat.enc),(1,a1,x.routes[k].rides.map Flat.enc),(1,a2,x.routes[k].stays.map Flat.enc)] [c7]/\h2.get c7=some (.cells [u,a1,a2] false)) (λj=>x.routes[k].stops.length-j) ?_ (s:=0)
   ⟨XJ,rfl,rfl,rfl,rfl,rfl,rfl,Nat.zero_le _,_,OJ,gJ⟩
  clear OJ gJ LJ;rintro j tm h2 ⟨X2,w1,w2,w3,w6,w7,w8,hj2,u,OU,g7⟩;obtain⟨T,rfl⟩:=pG w1 w2 w3 w6 w7 w8;clear w1 w2 w3 w6 w7 w8;have nX2:=X2.next;have h7:=OU.x c7 (by simp);have L7:LocE h2 c7 0 [u,a1,a2]:=⟨_,_,g7,h7.2,rfl⟩;by_cases d1:j<x.routes[k].stops.length
  ·repeat refine W.g ?_
   refine dI t4 c1 rfl rfl rfl rfl rfl rfl rfl λi3 o3 e3 L3 re3=> ?_;obtain⟨z7,z8,z9,rfl,y7,y8,y9⟩:=re3;have y7':=y7.ext (X.trans X2);have L3':=L3.ext (X.trans X2);repeat refine W.g ?_
   have ds:=aD ((XH.trans (X.trans X2)).fr fr);repeat (first|refine aC ?_|refine W.e λr_ h_ ds_ s_=> ?_)
   refine dQ t4 c1 rfl rfl rfl rfl rfl rfl rfl λi4 o4 e4 L4 re4=> ?_;obtain⟨za,zb,zc,rfl,ya,_,_⟩:=re4;have L4':=L4.ext (X.trans X2);repeat (first|refine aC ?_|refine W.e λr_ h_ ds_ s_=> ?_)
   refine aE (ya.ext (X.trans X2)) d1 rfl rfl rfl rfl rfl rfl rfl λi5 o5 L5=> ?_;repeat refine W.e λr_ h_ ds_ s_=> ?_
   refine aH ds_ rfl rfl rfl rfl (fM _ (t1.ext ((X.trans X2).trans ds_.x)) (by omega) (DZ.val (Ext.refl _) λq1 g1 d1' z1'=> ?_));clear ds_;refine bB d1' rfl rfl rfl rfl λq4 g4 ds4 x4 n4 gg4=> ?_;have gg4:g4.get g1.next=some (.cells (Flat.enc (place x.stops x.routes[k].stops[j])) false):=gg4;have XF:=ds4.x;have nXF:=XF.next;have OR:OwnR h2 h'.next 1 u (((x.routes[k].stops.take j).map (place x.stops)).map Flat.enc):=OU.o (1,u,((x.routes[k].stops.take j).map (place x.stops)).map Flat.enc) (by simp);have vne:idOf u≠[c7]:=λe=>(List.nodup_append.1 OU.nd).2.2 c7 (by simp[idsR,e]) c7 (by simp) rfl
   refine dC (H:=h') (z:=1) (l2:=[Flat.enc (place x.stops x.routes[k].stops[j])]) ds4.hri (X2.trans XF) (OR.ext XF) (SlG.one (by omega) gg4) rfl rfl rfl rfl rfl rfl rfl rfl rfl rfl rfl rfl rfl (by
    simp only[List.length_map,List.length_take,List.length_cons,List.length_nil];show _*8<=_;omega) λq5 u' g5 hr5 X5 n5 k5 O5 _ i5=> ?_
   have i5:=i5 (by simp);have OV:=(OwnG.turn (A:=[]) (show OwnG g4 h'.next ([]++(1,u,((x.routes[k].stops.take j).map (place x.stops)).map Flat.enc)::_) [c7]from OU.ext XF) n5 k5 (l':=((x.routes[k].stops.take (j+1)).map (place x.stops)).map Flat.enc) (by rw[iK d1,List.map_append];exact O5) (.inr ⟨_,i5,Nat.le_refl _⟩)).1;have g57:=(k5 c7 (by omega) (.inr vne)).trans ((XF.old c7 h7.2).trans g7);obtain⟨pv,nv,cv,xv,ev⟩:=O5.form;have hcells:u'.cells=some [u']:=by rw[ev];rfl
   rw[ev];repeat refine aC ?_
   rw[<-ev];refine W.dst (vs:=[u']) (cs':=[u',a1,a2]) hr5 rfl rfl rfl rfl hcells rfl rfl g57 rfl λq6 g6 hr6 s6'=> ?_;have gb6:g6.get c7=some (.cells [u',a1,a2] false):=by rw[s6'.get,aG]
   have k6:∀k,k≠c7->g6.get k=g5.get k:=λk hk=>by rw[s6'.get,aA,if_neg (Ne.symm hk)]
   have X6:Ext h' g6:=(X5.put (by omega) (by omega) _).trans s6'.ext;have O7:=(OV.put s6'.next k6).1;repeat refine aC ?_
   repeat refine W.g ?_
   exact⟨j+1,aI d1,X6,rfl,rfl,rfl,rfl,rfl,rfl,d1,u',O7,gb6⟩
  rw[show j=x.routes[k].stops.length by omega,List.take_length]at OU;have Lb2:=Lb.ext X2;have gb2:=(X2.old b ltb.2).trans gb;have y7c:=(show True from trivial);repeat refine W.g ?_
  refine dI t4 c1 rfl rfl rfl rfl rfl rfl rfl λi3 o3 e3 L3 re3=> ?_;obtain⟨z7,z8,z9,rfl,y7,y8,y9⟩:=re3;have y7':=y7.ext (X.trans X2);have L3':=L3.ext (X.trans X2);repeat (first|refine W.g ?_|refine W.n λh_ X_ n_ g_ S_=> ?_)
  have OE:OwnRW h2 h'.next [u,a1,a2] (x.routes[k].num x.stops):=⟨u,a1,a2,rfl,OU.o (1,u,(x.routes[k].stops.map (place x.stops)).map Flat.enc) (by simp),OU.o (1,a1,x.routes[k].rides.map Flat.enc) (by simp),OU.o (1,a2,x.routes[k].stays.map Flat.enc) (by simp)⟩
  have NDe:(bV [u,a1,a2]).Nodup:=by
   have nd:=(List.nodup_append.1 OU.nd).1;simpa[idsR,bV]using nd
  obtain⟨e0,css,R1,R2⟩:=O;have nob:idOf v≠[b]:=λe1=>(List.nodup_append.1 R2.nd).2.2 b (by simp[idsR,e1]) b (by simp) rfl;have iv:=OwnR.ids R1.1;have lcss:css.length=k:=by rw[R1.2.1,List.length_map,List.length_take];omega
  have S_:SlG h_ 3 (.slice (some (h2.next,0)) 1 1 0) [[u,a1,a2]]:=S_
  refine gT (H:=H) (z:=3) ((X.trans X2).trans X_) (R1.1.ext (X2.trans X_)) S_ (by simp) rfl rfl rfl rfl rfl rfl rfl rfl rfl rfl rfl rfl (by
   rw[lcss];show(_+1)*72<=_;omega) λv' h5 X5 O5 k5 n5 i5=> ?_
  have gb5:=(k5 b (by omega) nob).trans ((X_.old b (by omega)).trans gb2);obtain⟨pv,nv,cv,xv,ev⟩:=O5.form;have hcells:v'.cells=some [v']:=by rw[ev];rfl
  repeat refine W.g ?_
  refine aK (vs:=[v']) (cs':=[.int .i64 x.hz,u1,u2,u3,u4,u5,u6,w0,w1,v',.slice none 0 0 0,.slice none 0 0 0]) rfl rfl rfl hcells rfl rfl gb5 rfl λM nM gM kM=> ?_;have O8:=OwnWB.route (h':=h5) (j:=h_.next) e0 (R1.ext (X2.trans X_)) (R2.ext (X2.trans X_)) (OE.ext X_) nX (λa ha=>(R2.lt a ha).2) NDe (by omega) (λc hc hor=>hor.elim (λhl=>k5 c hc λe=>by have:=(iv c (by rw[e];simp)).1;omega) (k5 c hc)) O5 i5 (Nat.le_refl _);rw[show((x.routes.take k).map (λr:RouteS=>r.num x.stops)++[x.routes[k].num x.stops])=(x.routes.take (k+1)).map (λr:RouteS=>r.num x.stops)from(iK c1).symm]at O8;have O9:=O8.put nM kM;have XM:Ext H M:=Ext.store X5 nM kM (by omega) (by omega);repeat refine W.g ?_
  exact⟨k+1,aI c1,XM,rfl,rfl,rfl,rfl,c1,v',O9,gM⟩
 repeat refine W.g ?_
 obtain⟨w2,hw2⟩:∃u,u=v:=⟨_,rfl⟩;rw[show k=x.routes.length by omega,List.take_length,<-hw2]at O;rw[<-hw2]at gb;clear hw2 v Lb;refine dB 1 2 3 9 λT=> ?_
 refine W.loop (σ:=Nat) (λk tm h'=>Ext H h'/\tm.look 1= .ptr (some (h.next,0))/\tm.look 2= .ptr (some (H1.next,0))/\tm.look 3= .ptr (some (b,0))/\tm.look 9= .int .i64 (k:Int)/\k<=x.trips.length/\∃v:CV,OwnWB h' H.next b (.int .i64 x.hz) u1 u2 u3 u4 u5 u6 w0 w1 w2 v (.slice none 0 0 0) ⟨x.hz,x.names,x.paths.map (λp:PathS=>p.num x.stops),x.doors.map (λd:DoorS=>d.num x.stops),x.routes.map (λr:RouteS=>r.num x.stops),(x.trips.take k).map (λt:TripS=>t.num x.names.routes),[]⟩/\h'.get b=some (.cells [.int .i64 x.hz,u1,u2,u3,u4,u5,u6,w0,w1,w2,v,.slice none 0 0 0] false)) (λk=>x.trips.length-k) ?_ (s:=0)
  ⟨Ext.x,rfl,rfl,rfl,rfl,Nat.zero_le _,_,O,gb⟩
 clear O gb X;rintro k tm h' ⟨X,w1,w2,w3,w9,hk,v,O,gb⟩;obtain⟨T,rfl⟩:=cE w1 w2 w3 w9;clear w1 w2 w3 w9;have nX:=X.next;have ltb:=O.lt;have Lb:LocE h' b 0 [.int .i64 x.hz,u1,u2,u3,u4,u5,u6,w0,w1,w2,v,.slice none 0 0 0]:=⟨_,_,gb,ltb.2,rfl⟩;by_cases c1:k<x.trips.length
 ·repeat refine W.g ?_
  have ds:=aD ((XH.trans X).fr fr);repeat (first|refine aC ?_|refine W.e λr_ h_ ds_ s_=> ?_)
  refine pF (k:=4) Lb (by assumption) Ext.x rfl rfl rfl rfl rfl rfl rfl λr_ h_ ds_ s_=> ?_;repeat (first|refine aC ?_|refine W.e λr_ h_ ds_ s_=> ?_)
  refine aE t5 c1 rfl rfl rfl rfl rfl rfl rfl λi1 o1 L1=> ?_;repeat (first|refine aC ?_|refine W.e λr_ h_ ds_ s_=> ?_)
  refine aH ds_ rfl rfl rfl rfl (fM (l:=x.names.routes) _ ((bZ Flat.iff O.own_nroutes.1.sl).ext ds_.x) (by show(x.routes.map _).length<=_;rw[List.length_map];omega) (DZ.val (Ext.refl _) λq1 g1 d1 z1=> ?_));clear ds_;repeat (first|refine aC ?_|refine W.e λr_ h_ ds_ s_=> ?_)
  refine aE t5 c1 rfl rfl rfl rfl rfl rfl rfl λi2 o2 L2=> ?_;repeat (first|refine aC ?_|refine W.e λr_ h_ ds_ s_=> ?_)
  refine aE t5 c1 rfl rfl rfl rfl rfl rfl rfl λi3 o3 L3=> ?_;repeat (first|refine aC ?_|refine W.e λr_ h_ ds_ s_=> ?_)
  refine aE t5 c1 rfl rfl rfl rfl rfl rfl rfl λi4 o4 L4=> ?_;repeat (first|refine aC ?_|refine W.e λr_ h_ ds_ s_=> ?_)
  refine bB ds_ rfl rfl rfl rfl λq4 g4 ds4 x4 n4 gg4=> ?_;obtain⟨e4,he4⟩:∃e4:TripW,e4=x.trips[k].num x.names.routes:=⟨_,rfl⟩
  have gg4:g4.get h_.next=some (.cells (Flat.enc e4) false):=by
   rw[he4];exact gg4
  have XF:=ds4.x;have nXF:=XF.next
  have S4:SlG g4 4 (.slice (some (h_.next,0)) 1 1 0) [Flat.enc e4]:=by
   have:=SlG.one (by omega) gg4;rwa[show(Flat.enc e4).length=4 from rfl]at this
  refine dC (H:=H) (z:=4) (l2:=[Flat.enc e4]) ds4.hri (X.trans XF) (O.own_trips.1.ext XF) S4 rfl rfl rfl rfl rfl rfl rfl rfl rfl rfl rfl rfl rfl (by
   simp only[List.length_map,List.length_take,List.length_cons,List.length_nil];show _*32<=_;omega) λq5 v' g5 hr5 X5 n5 k5 O5 _ i5=> ?_
  have i5:=i5 (by simp);have gb5:=(k5 b (by omega) (.inr O.own_trips.2)).trans ((XF.old b ltb.2).trans gb);have O6:=(O.ext XF).trips (h':=g5) (l:=(x.trips.take (k+1)).map (λt:TripS=>t.num x.names.routes)) (u:=v') n5 k5 (by rw[iK c1,List.map_append,<-he4];exact O5) (.inr ⟨_,i5,Nat.le_refl _⟩);obtain⟨pv,nv,cv,xv,ev⟩:=O5.form;have hcells:v'.cells=some [v']:=by rw[ev];rfl
  rw[ev];repeat refine aC ?_
  rw[<-ev];refine W.dst (vs:=[v']) (cs':=[.int .i64 x.hz,u1,u2,u3,u4,u5,u6,w0,w1,w2,v',.slice none 0 0 0]) hr5 rfl rfl rfl rfl hcells rfl rfl gb5 rfl λq6 g6 hr6 s6'=> ?_;have gb6:g6.get b=some (.cells [.int .i64 x.hz,u1,u2,u3,u4,u5,u6,w0,w1,w2,v',.slice none 0 0 0] false):=by rw[s6'.get,aG]
  have k6:∀k,k≠b->g6.get k=g5.get k:=λk hk=>by rw[s6'.get,aA,if_neg (Ne.symm hk)]
  have X6:Ext H g6:=(X5.put (by omega) (by omega) _).trans s6'.ext;have O7:=O6.put s6'.next k6;repeat refine aC ?_
  repeat refine W.g ?_
  exact⟨k+1,aI c1,X6,rfl,rfl,rfl,rfl,c1,v',O7,gb6⟩
 repeat refine W.g ?_
 obtain⟨w3,hw3⟩:∃u,u=v:=⟨_,rfl⟩;rw[show k=x.trips.length by omega,List.take_length,<-hw3]at O;rw[<-hw3]at gb;clear hw3 v Lb;refine dB 1 2 3 10 λT=> ?_
 refine W.loop (σ:=Nat) (λk tm h'=>Ext H h'/\tm.look 1= .ptr (some (h.next,0))/\tm.look 2= .ptr (some (H1.next,0))/\tm.look 3= .ptr (some (b,0))/\tm.look 10= .int .i64 (k:Int)/\k<=x.hazards.length/\∃v:CV,OwnWB h' H.next b (.int .i64 x.hz) u1 u2 u3 u4 u5 u6 w0 w1 w2 w3 v ⟨x.hz,x.names,x.paths.map (λp:PathS=>p.num x.stops),x.doors.map (λd:DoorS=>d.num x.stops),x.routes.map (λr:RouteS=>r.num x.stops),x.trips.map (λt:TripS=>t.num x.names.routes),(x.hazards.take k).map (λz:HazS=>z.num x.stops x.names.paths)⟩/\h'.get b=some (.cells [.int .i64 x.hz,u1,u2,u3,u4,u5,u6,w0,w1,w2,w3,v] false)) (λk=>x.hazards.length-k) ?_ (s:=0)
  ⟨Ext.x,rfl,rfl,rfl,rfl,Nat.zero_le _,_,O,gb⟩
 clear O gb X;rintro k tm h' ⟨X,w1,w2,w3,w10,hk,v,O,gb⟩;obtain⟨T,rfl⟩:=cE w1 w2 w3 w10;clear w1 w2 w3 w10;have nX:=X.next;have ltb:=O.lt;have Lb:LocE h' b 0 [.int .i64 x.hz,u1,u2,u3,u4,u5,u6,w0,w1,w2,w3,v]:=⟨_,_,gb,ltb.2,rfl⟩;by_cases c1:k<x.hazards.length
 ·repeat refine W.g ?_
  have ds:=aD ((XH.trans X).fr fr);have hz0:=qO x.stops x.hazards[k].on;repeat (first|refine aC ?_|refine W.e λr_ h_ ds_ s_=> ?_)
  refine aE t6 c1 rfl rfl rfl rfl rfl rfl rfl λi1 o1 L1=> ?_;repeat (first|refine aC ?_|refine W.e λr_ h_ ds_ s_=> ?_)
  refine aH ds_ rfl rfl rfl rfl (fM _ (t1.ext (X.trans ds_.x)) (by omega) (DZ.val (Ext.refl _) λq1 g1 d1 z1=> ?_));clear ds_;repeat (first|refine aC ?_|refine W.e λr_ h_ ds_ s_=> ?_)
  refine aE t6 c1 rfl rfl rfl rfl rfl rfl rfl λi2 o2 L2=> ?_;repeat (first|refine aC ?_|refine W.e λr_ h_ ds_ s_=> ?_)
  refine aBd ds_ rfl rfl rfl λq4 g4 ds4 x4 n4 gg4=> ?_;obtain⟨c7,hc7⟩:∃c,c=h_.next:=⟨_,rfl⟩;have nx0:=ds_.x.next;rw[<-hc7]at gg4 ⊢;have XF:=ds4.x;have nXF:=XF.next;refine W.dst (vs:=[.bool true,.int .i64 (place x.stops x.hazards[k].on),.int .i64 x.hazards[k].times.frm,.int .i64 x.hazards[k].times.evr,.int .i64 x.hazards[k].times.len]) (cs':=[.bool true,.int .i64 (place x.stops x.hazards[k].on),.int .i64 x.hazards[k].times.frm,.int .i64 x.hazards[k].times.evr,.int .i64 x.hazards[k].times.len]) ds4.hri rfl rfl rfl rfl rfl rfl rfl gg4 rfl λq6 J hr6 s6'=> ?_;have gJ:J.get c7=some (.cells [.bool true,.int .i64 (place x.stops x.hazards[k].on),.int .i64 x.hazards[k].times.frm,.int .i64 x.hazards[k].times.evr,.int .i64 x.hazards[k].times.len] false):=by rw[s6'.get,aG]
  have nJ:J.next=g4.next:=s6'.next;have nx1:=d1.x.next;have nx2:=s_.next;have XJ:Ext h' J:=(XF.put (by omega) (by omega) _).trans s6'.ext;have LJ:LocE J c7 0 [.bool true,.int .i64 (place x.stops x.hazards[k].on),.int .i64 x.hazards[k].times.frm,.int .i64 x.hazards[k].times.evr,.int .i64 x.hazards[k].times.len]:=⟨_,_,gJ,by omega,rfl⟩;repeat refine aC ?_
  clear d1 ds4 gg4 ds_ ds s6' hr6;refine gS 1 2 3 10 11 λT=> ?_;repeat refine W.g ?_
  obtain⟨e4,he4⟩:∃e4:HazW,e4=x.hazards[k].num x.stops x.names.paths:=⟨_,rfl⟩;refine iZ (λtm' h2=>tm'.look 1= .ptr (some (h.next,0))/\tm'.look 2= .ptr (some (H1.next,0))/\tm'.look 3= .ptr (some (b,0))/\tm'.look 10= .int .i64 (k:Int)/\tm'.look 11= .ptr (some (c7,0))/\Ext h' h2/\c7<h2.next/\h2.get c7=some (.cells (Flat.enc e4) false)) ?_ ?_
  ·by_cases d0:place x.stops x.hazards[k].on<0
   ·repeat refine W.g ?_
    have ds:=aD ((XH.trans (X.trans XJ)).fr fr);have Lb2:=Lb.ext XJ;repeat refine aC ?_
    refine pF (k:=2) Lb2 (by assumption) Ext.x rfl rfl rfl rfl rfl rfl rfl λr_ h_ ds_ s_=> ?_;repeat (first|refine aC ?_|refine W.e λr_ h_ ds_ s_=> ?_)
    refine aE (t6.ext (X.trans XJ)) c1 rfl rfl rfl rfl rfl rfl rfl λi3 o3 L3=> ?_;repeat (first|refine aC ?_|refine W.e λr_ h_ ds_ s_=> ?_)
    refine aH ds_ rfl rfl rfl rfl (fM (l:=x.names.paths) _ ((bZ Flat.iff O.own_npaths.1.sl).ext (XJ.trans ds_.x)) (by show(x.paths.map _).length<=_;rw[List.length_map];omega) (DZ.val (Ext.refl _) λq1 g1 d1 z1=> ?_));clear ds_;repeat refine aC ?_
    have X1:=d1.x;have g71:=(X1.old c7 (by omega)).trans gJ;have n71:=X1.next;refine W.dst (vs:=[.bool false]) (cs':=[.bool false,.int .i64 (place x.stops x.hazards[k].on),.int .i64 x.hazards[k].times.frm,.int .i64 x.hazards[k].times.evr,.int .i64 x.hazards[k].times.len]) d1.hri rfl rfl rfl rfl rfl rfl rfl g71 rfl λq7 J2 hr7 s7'=> ?_;have g72:J2.get c7=some (.cells [.bool false,.int .i64 (place x.stops x.hazards[k].on),.int .i64 x.hazards[k].times.frm,.int .i64 x.hazards[k].times.evr,.int .i64 x.hazards[k].times.len] false):=by rw[s7'.get,aG]
    have nJ2:J2.next=g1.next:=s7'.next;have XJ2:Ext h' J2:=((XJ.trans X1).put (by omega) (by omega) _).trans s7'.ext;repeat refine aC ?_
    refine W.dst (vs:=[.int .i64 (place x.names.paths x.hazards[k].on)]) (cs':=[.bool false,.int .i64 (place x.names.paths x.hazards[k].on),.int .i64 x.hazards[k].times.frm,.int .i64 x.hazards[k].times.evr,.int .i64 x.hazards[k].times.len]) hr7 rfl rfl rfl rfl rfl rfl rfl g72 rfl λq8 J3 hr8 s8'=> ?_;have g73:J3.get c7=some (.cells [.bool false,.int .i64 (place x.names.paths x.hazards[k].on),.int .i64 x.hazards[k].times.frm,.int .i64 x.hazards[k].times.evr,.int .i64 x.hazards[k].times.len] false):=by rw[s8'.get,aG]
    have nJ3:J3.next=J2.next:=s8'.next;have XJ3:Ext h' J3:=(XJ2.put (by omega) (by omega) _).trans s8'.ext;repeat refine aC ?_
    repeat refine W.g ?_
    refine⟨rfl,rfl,rfl,rfl,rfl,XJ3,by omega,?_⟩;rw[he4,yP,if_neg (by omega)];exact g73
   ·repeat refine W.g ?_
    refine⟨rfl,rfl,rfl,rfl,rfl,XJ,by omega,?_⟩;rw[he4,yP,if_pos (by omega)];exact gJ
  clear LJ gJ nJ XJ XF nXF;rintro tm' h2 ⟨w1,w2,w3,w10,w11,X2,l7,g7⟩;obtain⟨T,rfl⟩:=bX w1 w2 w3 w10 w11;clear w1 w2 w3 w10 w11;have nX2:=X2.next;have Lb2:=Lb.ext X2;have gb2:=(X2.old b ltb.2).trans gb;have L7:LocE h2 c7 0 (Flat.enc e4):=⟨_,_,g7,l7,rfl⟩;repeat (first|refine W.g ?_|refine W.n λh_ X_ n_ g_ S_=> ?_)
  have S_:SlG h_ 5 (.slice (some (h2.next,0)) 1 1 0) [Flat.enc e4]:=S_
  refine gT (H:=H) (z:=5) ((X.trans X2).trans X_) (O.own_hazards.1.ext (X2.trans X_)) S_ (by simp) rfl rfl rfl rfl rfl rfl rfl rfl rfl rfl rfl rfl (by
   simp only[List.length_map,List.length_take,List.length_cons,List.length_nil];show _*40<=_;omega) λv' h5 X5 O5 k5 n5 i5=> ?_
  have gb5:=(k5 b (by omega) O.own_hazards.2).trans ((X_.old b (by omega)).trans gb2);obtain⟨pv,nv,cv,xv,ev⟩:=O5.form;have hcells:v'.cells=some [v']:=by rw[ev];rfl
  have iv:=OwnR.ids O.own_hazards.1;have O8:=(O.ext (X2.trans X_)).hazards (h':=h5) (l:=(x.hazards.take (k+1)).map (λz:HazS=>z.num x.stops x.names.paths)) (u:=v') (by omega) (λc hc hor=>hor.elim (λhl=>k5 c hc λe=>by have:=(iv c (by rw[e];simp)).1;omega) (k5 c hc)) (by rw[iK c1,List.map_append,<-he4];exact O5) (.inr ⟨_,i5,Nat.le_refl _⟩);repeat refine W.g ?_
  refine aK (vs:=[v']) (cs':=[.int .i64 x.hz,u1,u2,u3,u4,u5,u6,w0,w1,w2,w3,v']) rfl rfl rfl hcells rfl rfl gb5 rfl λM nM gM kM=> ?_;have O9:=O8.put nM kM;have XM:Ext H M:=Ext.store X5 nM kM (by omega) (by omega);repeat refine W.g ?_
  exact⟨k+1,aI c1,XM,rfl,rfl,rfl,rfl,c1,v',O9,gM⟩
 repeat refine W.g ?_
 rw[show k=x.hazards.length by omega,List.take_length]at O;have nX:=X.next;have ltb:=O.lt;refine aK (vs:=[.int .i64 x.hz,u1,u2,u3,u4,u5,u6,w0,w1,w2,w3,v]) (cs':=[.int .i64 x.hz,u1,u2,u3,u4,u5,u6,w0,w1,w2,w3,v]) rfl rfl rfl rfl rfl rfl ((X.old _ (by omega)).trans gR) rfl λM nM gM kM=> ?_;repeat refine W.g ?_
 refine aJ rfl rfl gM rfl rfl ?_;exact q M _ (Ext.store (XH.trans X) nM kM (by omega) (by omega)) λM2 hn hk=>(((O.keep (h':=M) (by omega) λk h1 h2=>kM k (by omega)).keep hn λk h1 h2=>hk k (by omega) h2).rp)
end
end Go.Proofs.YtfheibkikpefkaaGreatDoor
