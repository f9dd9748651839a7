/- The sheet that a world tells. No condition but that memory beyond the next number is empty. -/
import Derived.Test.YtnjkaahbhebaeaaGreatDoorXU
import Derived.Test.YtnjkaahbhebaeaaGreatDoorZYa
import Derived.Test.YtnjkaahbhebaeaaGreatDoorZB
import Derived.Test.YtnjkaahbhebaeaaGreatDoorYZ
set_option linter.unusedVariables false
set_option linter.unusedSimpArgs false
set_option maxRecDepth 100000
namespace Go.Proofs.YtnjkaahbhebaeaaGreatDoor
open Go Go.CM Go.CM.Tt
noncomputable section
set_option maxHeartbeats 40000000
set_option maxRecDepth 100000
theorem toldStop_w {H h:Heap} {tm:Tm} {Q:R->Prop} {b3:Nat} {v1 v2 v3 v4 v5 v6:CV} {l:List Str} (L3:LocE H b3 0 [v1,v2,v3,v4,v5,v6]) (sl:Sl H v1 l) (X:Ext H h) (i:Int) (hi:inL i l) (q:∀h2,Ext h h2->Q (.val (.str (atL l i)) h2)):W E1 (.call (.fn 222 [] [.ptr (some (b3,0))]) [.int .i64 i]) tm h Q:=by
 obtain⟨j,rfl,hj⟩:=hi.ex;rw[atL_at hj]at q;refine W.fn (s:=fnOf Tryz.f222) rfl rfl rfl rfl ?_;repeat refine W.g ?_
 refine W.ixF sl hj rfl rfl rfl rfl rfl rfl rfl λi_ o_ L_=> ?_;repeat refine W.g ?_
 exact q _ (Ext.refl _)
theorem told_w0 {h:Heap} {tm:Tm} {Q:R->Prop} {cs:List CV} {w:WorldD} (r:Rp.R h cs w) (fr:Fresh h) (hw:w.whole) (sm:w.small) (q:∀h' e,Ext h h'->(∀M:Heap,h'.next<=M.next->(∀k,h.next<=k->k<h'.next->M.get k=h'.get k)->Rp.R M e w.told)->Q (.val (.agg e) h')):W E1 (.call (.fn 143 [] []) [.agg cs]) tm h Q:=by
 obtain⟨v1,v2,v3,v4,v5,v6,v7,v8,v9,v10,v11,rfl,s1,s2,s3,s4,s5,s6,s7,s8,s9,s10,s11⟩:=r;obtain⟨⟨l1,l2,l3,l4,l5⟩,wp,wd,wr,wt,wh⟩:=hw;obtain⟨f1,f2,f3,f4,f5,f6,f7,f8,f9,f10,f11,frr⟩:=sm;refine W.fn (s:=fnOf Tryz.f143) rfl rfl rfl rfl ?_;repeat (refine W.seq ?_)
 refine W.region ?_;refine W.box rfl rfl rfl λHa Xa na ga La=> ?_;refine W.al rfl rfl rfl λH0 X0 n0 g0 L0=> ?_;clear L0;have g0:H0.get Ha.next=some (.cells [.int .i64 0,.slice none 0 0 0,.slice none 0 0 0,.slice none 0 0 0,.slice none 0 0 0,.slice none 0 0 0,.slice none 0 0 0] false):=g0;repeat (first|refine W.g ?_|refine W.m λh_ X_ n_ g_ L_=> ?_)
 obtain⟨H,rfl⟩:∃H,H=h_:=⟨_,rfl⟩;have Xh0:=Xa.trans X0;have Xh:Ext h H:=Xh0.trans X_;have L3:LocE H H0.next 0 [v1,v2,v3,v4,v5,v6]:=L_;have L1:=(La.ext X0).ext X_;have g0:=(X_.old Ha.next (by omega)).trans g0;have nH:H.next=H0.next+1:=n_;clear L_ g_ n_ La ga;refine W.k3 1 2 3 λT=> ?_;have ds:=DX.start (Xh.fr fr);repeat (first|refine W.gd ?_|refine W.e λr_ h_ ds_ s_=> ?_)
 have X1:=ds_.x;have nx1:=X1.next;refine W.dcallZ ds_ rfl rfl rfl rfl (clone_str (s1.ext (Xh.trans X1)) (by omega) λh1 n1 Y1 O1=>DZ.val Y1 λr1 h1' ds1 s1'=> ?_);have O1:=(O1.low (lo':=H.next) nx1).ext s1'.ext;have I1:=OwnR.ids O1;obtain⟨p1,m1,c1,y1,ee⟩:=O1.form;rw[ee];clear ds_ ds;repeat refine W.gd ?_
 refine W.dalZ ds1 rfl rfl rfl λr3 H3 ds3 x3 n3 g3=> ?_;rw[<-ee];have Z:=ds3.x;have nZ:=Z.next;have nds:=ds1.x.next;refine W.dst (vs:=[.int .i64 w.hz,n1,.slice none 0 0 0,.slice none 0 0 0,.slice none 0 0 0,.slice none 0 0 0,.slice none 0 0 0]) (cs':=[.int .i64 w.hz,n1,.slice none 0 0 0,.slice none 0 0 0,.slice none 0 0 0,.slice none 0 0 0,.slice none 0 0 0]) ds3.hri rfl rfl rfl rfl rfl rfl rfl g3 rfl λr4 H4 hr4 t4=> ?_;repeat refine W.gd ?_
 obtain⟨b,hb⟩:∃b,b=h1'.next:=⟨_,rfl⟩;rw[<-hb]at g3 t4 I1 ⊢;have n4:H4.next=H3.next:=t4.next;have k4:∀k,k≠b->H4.get k=H3.get k:=λk hk=>by rw[t4.get,Heap.get_put,if_neg (Ne.symm hk)]
 have gB:H4.get b=some (.cells [.int .i64 w.hz,n1,.slice none 0 0 0,.slice none 0 0 0,.slice none 0 0 0,.slice none 0 0 0,.slice none 0 0 0] false):=by rw[t4.get,put_same]
 have XB:Ext H H4:=Ext.store Z n4 k4 (by omega) (by omega);have ne1:∀k∈idOf n1,k≠b:=λk hk=>by have:=(I1 k hk).2;omega
 have OB:OwnSB H4 H.next b (.int .i64 w.hz) n1 (.slice none 0 0 0) (.slice none 0 0 0) (.slice none 0 0 0) (.slice none 0 0 0) (.slice none 0 0 0) ⟨w.hz,w.names.stops,[],[],[],[],[]⟩:=OwnSB.start ((O1.ext x3).other (by omega) λk _ _ hid=>k4 k (ne1 k (by rw[hid];simp))) (by omega) (by omega) (λe=>ne1 b (by rw[e];simp) rfl);clear ds1 ds3 hr4 t4 k4 g3 x3 Z O1 ee;refine W.k4 1 2 3 4 λT=> ?_;repeat refine W.g ?_
 refine W.loop (σ:=Nat) (λk tm h'=>Ext H h'/\tm.look 1= .ptr (some (h.next,0))/\tm.look 2= .ptr (some (Ha.next,0))/\tm.look 3= .ptr (some (H0.next,0))/\tm.look 4= .ptr (some (b,0))/\tm.look 25=v7/\tm.look 26= .int .i64 (w.paths.length:Int)/\tm.look 27= .int .i64 (k:Int)/\k<=w.paths.length/\∃v,OwnSB h' H.next b (.int .i64 w.hz) n1 v (.slice none 0 0 0) (.slice none 0 0 0) (.slice none 0 0 0) (.slice none 0 0 0) ⟨w.hz,w.names.stops,w.told.paths.take k,[],[],[],[]⟩/\h'.get b=some (.cells [.int .i64 w.hz,n1,v,.slice none 0 0 0,.slice none 0 0 0,.slice none 0 0 0,.slice none 0 0 0] false)) (λk=>w.paths.length-k) ?_ (s:=0) ⟨XB,rfl,rfl,rfl,rfl,rfl,rfl,rfl,Nat.zero_le _,_,OB,gB⟩;rintro k tm h' ⟨X,w1,w2,w3,w4,w25,w26,w27,hk,v,O,gb⟩;obtain⟨T,rfl⟩:=Tm.t7 w1 w2 w3 w4 w25 w26 w27;clear w1 w2 w3 w4 w25 w26 w27;have Lb:LocE h' b 0 [.int .i64 w.hz,n1,v,.slice none 0 0 0,.slice none 0 0 0,.slice none 0 0 0,.slice none 0 0 0]:=⟨_,_,gb,O.lt,rfl⟩;have nX:=X.next;have ltb:=O.lt;by_cases c1:k<w.paths.length
 ·repeat refine W.g ?_
  refine W.ixF s7 c1 rfl rfl rfl rfl rfl rfl rfl λi_ o_ L_=> ?_;repeat (first|refine W.g ?_|refine W.m λh_ X_ n_ g_ L_=> ?_)
  obtain⟨ja,ea,hja⟩:=(wp _ (List.getElem_mem c1)).1.ex;obtain⟨jb,eb,hjb⟩:=(wp _ (List.getElem_mem c1)).2.ex;refine W.stn (vs:=Flat.enc w.paths[k]) (cs':=Flat.enc w.paths[k]) rfl rfl rfl rfl rfl rfl g_ rfl λP nP gP kP=> ?_;have XP:Ext h' P:=Ext.store X_ nP kP (Nat.le_refl _) (by omega);have nXP:=XP.next
  have L6:LocE P h'.next 0 [.int .i64 (ja:Int),.int .i64 (jb:Int),.int .i64 w.paths[k].len]:=by
   have g6:P.get h'.next=some (.cells (Flat.enc w.paths[k]) false):=gP;have:(Flat.enc w.paths[k]:List CV)=[.int .i64 (ja:Int),.int .i64 (jb:Int),.int .i64 w.paths[k].len]:=by show[CV.int .i64 w.paths[k].a,.int .i64 w.paths[k].b,.int .i64 w.paths[k].len]=_;rw[ea,eb]
   rw[this]at g6;exact⟨_,_,g6,by omega,rfl⟩
  clear L_ g_ X_ kP gP;refine W.k9 1 2 3 4 25 26 27 5 6 λT=> ?_;repeat refine W.g ?_
  have ds:=DX.start (((Xh.trans X).trans XP).fr fr);repeat (first|refine W.gd ?_|refine W.e λr_ h_ ds_ s_=> ?_)
  refine W.dixF s2 (j:=k) (by omega) rfl rfl rfl rfl rfl rfl rfl λik ok Mk=> ?_;repeat (first|refine W.gd ?_|refine W.e λr_ h_ ds_ s_=> ?_)
  refine W.dixF s1 (j:=ja) hja rfl rfl rfl rfl rfl rfl rfl λija oja Mja=> ?_;repeat (first|refine W.gd ?_|refine W.e λr_ h_ ds_ s_=> ?_)
  refine W.dixF s1 (j:=jb) hjb rfl rfl rfl rfl rfl rfl rfl λijb ojb Mjb=> ?_;repeat (first|refine W.gd ?_|refine W.e λr_ h_ ds_ s_=> ?_)
  refine W.dnewZ ds_ rfl rfl rfl rfl λq4 D4 ds4 x4 n4 g4=> ?_;obtain⟨e4,he4⟩:∃e4:PathS,e4=w.paths[k].told w.names k:=⟨_,rfl⟩
  have g4:D4.get h_.next=some (.cells (Flat.enc e4) false):=by
   rw[he4,show w.paths[k].told w.names k=(⟨w.names.paths[k],w.names.stops[ja],w.names.stops[jb],w.paths[k].len⟩:PathS)from by unfold PathW.told;rw[getD_at (by omega),ea,eb,atL_at hja,atL_at hjb]];exact g4
  have XF:=ds4.x;have nXF:=XF.next
  have S4:SlG D4 4 (.slice (some (h_.next,0)) 1 1 0) [Flat.enc e4]:=by
   have:=SlG.one (by omega) g4;rwa[show(Flat.enc e4).length=4 from rfl]at this
  refine W.apD (H:=H) (z:=4) (l2:=[Flat.enc e4]) ds4.hri ((X.trans XP).trans XF) (O.own_paths.1.ext (XP.trans XF)) S4 rfl rfl rfl rfl rfl rfl rfl rfl rfl rfl rfl rfl rfl (by
   rw[List.length_map,List.length_take];show(_+1)*56<=_;omega) λq5 u D5 hr5 XD5 nD5 kD5 P5 _ i5=> ?_
  have i5:=i5 (by simp);obtain⟨pp5,pm5,pc5,py5,em5⟩:=P5.form;have hc5:u.cells=some [u]:=by rw[em5];rfl
  rw[em5];repeat refine W.gd ?_
  rw[<-em5];refine W.dst (vs:=[u]) (cs':=[.int .i64 w.hz,n1,u,.slice none 0 0 0,.slice none 0 0 0,.slice none 0 0 0,.slice none 0 0 0]) hr5 rfl rfl rfl rfl hc5 rfl rfl ((kD5 b (by omega) (.inr O.own_paths.2)).trans (((XP.trans XF).old b (by omega)).trans gb)) rfl λq6 D6 hr6 t6=> ?_;repeat refine W.gd ?_
  have n6:D6.next=D5.next:=t6.next;have k6:∀k,k≠b->D6.get k=D5.get k:=λk hk=>by rw[t6.get,Heap.get_put,if_neg (Ne.symm hk)]
  have gb6:D6.get b=some (.cells [.int .i64 w.hz,n1,u,.slice none 0 0 0,.slice none 0 0 0,.slice none 0 0 0,.slice none 0 0 0] false):=by rw[t6.get,put_same]
  have XG:Ext H D6:=Ext.store XD5 n6 k6 (by omega) (by omega);have O8:OwnSB D5 H.next b (.int .i64 w.hz) n1 u (.slice none 0 0 0) (.slice none 0 0 0) (.slice none 0 0 0) (.slice none 0 0 0) ⟨w.hz,w.names.stops,w.told.paths.take (k+1),[],[],[],[]⟩:=(O.ext (XP.trans XF)).paths (h':=D5) (l:=w.told.paths.take (k+1)) nD5 kD5 (by rw[show w.told.paths.take (k+1)=w.told.paths.take k++[e4]from by rw[he4];exact told_take c1,List.map_append];exact P5) (.inr ⟨_,i5,by omega⟩);have O9:=O8.put n6 k6;clear ds ds_ ds4 hr5 hr6 t6 g4 x4 kD5 k6 em5 O8 P5 S4 Lb gb;refine W.k7 1 2 3 4 25 26 27 λT=> ?_;repeat refine W.g ?_
  exact⟨k+1,lessN c1,XG,rfl,rfl,rfl,rfl,rfl,rfl,rfl,c1,u,O9,gb6⟩
 ·repeat refine W.g ?_
  have et:w.told.paths.take k=w.told.paths:=told_all c1 hk;rw[et]at O;clear Lb c1;obtain⟨u2,hu2⟩:∃u,u=v:=⟨_,rfl⟩;rw[<-hu2]at O gb;refine W.k7 1 2 3 4 59 60 61 λT=> ?_;refine W.loop (σ:=Nat) (λk tm h'=>Ext H h'/\tm.look 1= .ptr (some (h.next,0))/\tm.look 2= .ptr (some (Ha.next,0))/\tm.look 3= .ptr (some (H0.next,0))/\tm.look 4= .ptr (some (b,0))/\tm.look 59=v8/\tm.look 60= .int .i64 (w.doors.length:Int)/\tm.look 61= .int .i64 (k:Int)/\k<=w.doors.length/\∃v,OwnSB h' H.next b (.int .i64 w.hz) n1 u2 v (.slice none 0 0 0) (.slice none 0 0 0) (.slice none 0 0 0) ⟨w.hz,w.names.stops,w.told.paths,w.told.doors.take k,[],[],[]⟩/\h'.get b=some (.cells [.int .i64 w.hz,n1,u2,v,.slice none 0 0 0,.slice none 0 0 0,.slice none 0 0 0] false)) (λk=>w.doors.length-k) ?_ (s:=0) ⟨X,rfl,rfl,rfl,rfl,rfl,rfl,rfl,Nat.zero_le _,_,O,gb⟩;rintro k tm h' ⟨X,w1,w2,w3,w4,w59,w60,w61,hk,v,O,gb⟩;obtain⟨T,rfl⟩:=Tm.t7 w1 w2 w3 w4 w59 w60 w61;clear w1 w2 w3 w4 w59 w60 w61;have Lb:LocE h' b 0 [.int .i64 w.hz,n1,u2,v,.slice none 0 0 0,.slice none 0 0 0,.slice none 0 0 0]:=⟨_,_,gb,O.lt,rfl⟩;have nX:=X.next;have ltb:=O.lt;by_cases c1:k<w.doors.length
  ·repeat refine W.g ?_
   refine W.ixF s8 c1 rfl rfl rfl rfl rfl rfl rfl λi_ o_ L_=> ?_;repeat (first|refine W.g ?_|refine W.m λh_ X_ n_ g_ L_=> ?_)
   obtain⟨ja,ea,hja⟩:=(wd _ (List.getElem_mem c1)).1.ex;obtain⟨jb,eb,hjb⟩:=(wd _ (List.getElem_mem c1)).2.ex;refine W.stn (vs:=Flat.enc w.doors[k]) (cs':=Flat.enc w.doors[k]) rfl rfl rfl rfl rfl rfl g_ rfl λP nP gP kP=> ?_;have XP:Ext h' P:=Ext.store X_ nP kP (Nat.le_refl _) (by omega);have nXP:=XP.next
   have L6:LocE P h'.next 0 [.int .i64 (ja:Int),.int .i64 (jb:Int),.int .i64 w.doors[k].len,.int .i64 w.doors[k].times.frm,.int .i64 w.doors[k].times.evr,.int .i64 w.doors[k].times.len]:=by
    have g6:P.get h'.next=some (.cells (Flat.enc w.doors[k]) false):=gP;have:(Flat.enc w.doors[k]:List CV)=[.int .i64 (ja:Int),.int .i64 (jb:Int),.int .i64 w.doors[k].len,.int .i64 w.doors[k].times.frm,.int .i64 w.doors[k].times.evr,.int .i64 w.doors[k].times.len]:=by show[CV.int .i64 w.doors[k].a,.int .i64 w.doors[k].b,.int .i64 w.doors[k].len,.int .i64 w.doors[k].times.frm,.int .i64 w.doors[k].times.evr,.int .i64 w.doors[k].times.len]=_;rw[ea,eb]
    rw[this]at g6;exact⟨_,_,g6,by omega,rfl⟩
   clear L_ g_ X_ kP gP;refine W.k9 1 2 3 4 59 60 61 7 8 λT=> ?_;repeat refine W.g ?_
   have ds:=DX.start (((Xh.trans X).trans XP).fr fr);repeat (first|refine W.gd ?_|refine W.e λr_ h_ ds_ s_=> ?_)
   refine W.dixF s3 (j:=k) (by omega) rfl rfl rfl rfl rfl rfl rfl λik ok Mk=> ?_;repeat (first|refine W.gd ?_|refine W.e λr_ h_ ds_ s_=> ?_)
   refine W.dixF s1 (j:=ja) hja rfl rfl rfl rfl rfl rfl rfl λija oja Mja=> ?_;repeat (first|refine W.gd ?_|refine W.e λr_ h_ ds_ s_=> ?_)
   refine W.dixF s1 (j:=jb) hjb rfl rfl rfl rfl rfl rfl rfl λijb ojb Mjb=> ?_;repeat (first|refine W.gd ?_|refine W.e λr_ h_ ds_ s_=> ?_)
   refine W.dnewZ ds_ rfl rfl rfl rfl λq4 D4 ds4 x4 n4 g4=> ?_;obtain⟨e4,he4⟩:∃e4:DoorS,e4=w.doors[k].told w.names k:=⟨_,rfl⟩
   have g4:D4.get h_.next=some (.cells (Flat.enc e4) false):=by
    rw[he4,show w.doors[k].told w.names k=(⟨w.names.doors[k],w.names.stops[ja],w.names.stops[jb],w.doors[k].len,w.doors[k].times⟩:DoorS)from by unfold DoorW.told;rw[getD_at (by omega),ea,eb,atL_at hja,atL_at hjb]];exact g4
   have XF:=ds4.x;have nXF:=XF.next
   have S4:SlG D4 7 (.slice (some (h_.next,0)) 1 1 0) [Flat.enc e4]:=by
    have:=SlG.one (by omega) g4;rwa[show(Flat.enc e4).length=7 from rfl]at this
   refine W.apD (H:=H) (z:=7) (l2:=[Flat.enc e4]) ds4.hri ((X.trans XP).trans XF) (O.own_doors.1.ext (XP.trans XF)) S4 rfl rfl rfl rfl rfl rfl rfl rfl rfl rfl rfl rfl rfl (by
    rw[List.length_map,List.length_take];show(_+1)*80<=_;omega) λq5 u D5 hr5 XD5 nD5 kD5 P5 _ i5=> ?_
   have i5:=i5 (by simp);obtain⟨pp5,pm5,pc5,py5,em5⟩:=P5.form;have hc5:u.cells=some [u]:=by rw[em5];rfl
   rw[em5];repeat refine W.gd ?_
   rw[<-em5];refine W.dst (vs:=[u]) (cs':=[.int .i64 w.hz,n1,u2,u,.slice none 0 0 0,.slice none 0 0 0,.slice none 0 0 0]) hr5 rfl rfl rfl rfl hc5 rfl rfl ((kD5 b (by omega) (.inr O.own_doors.2)).trans (((XP.trans XF).old b (by omega)).trans gb)) rfl λq6 D6 hr6 t6=> ?_;repeat refine W.gd ?_
   have n6:D6.next=D5.next:=t6.next;have k6:∀k,k≠b->D6.get k=D5.get k:=λk hk=>by rw[t6.get,Heap.get_put,if_neg (Ne.symm hk)]
   have gb6:D6.get b=some (.cells [.int .i64 w.hz,n1,u2,u,.slice none 0 0 0,.slice none 0 0 0,.slice none 0 0 0] false):=by rw[t6.get,put_same]
   have XG:Ext H D6:=Ext.store XD5 n6 k6 (by omega) (by omega);have O8:OwnSB D5 H.next b (.int .i64 w.hz) n1 u2 u (.slice none 0 0 0) (.slice none 0 0 0) (.slice none 0 0 0) ⟨w.hz,w.names.stops,w.told.paths,w.told.doors.take (k+1),[],[],[]⟩:=(O.ext (XP.trans XF)).doors (h':=D5) (l:=w.told.doors.take (k+1)) nD5 kD5 (by rw[show w.told.doors.take (k+1)=w.told.doors.take k++[e4]from by rw[he4];exact told_take c1,List.map_append];exact P5) (.inr ⟨_,i5,by omega⟩);have O9:=O8.put n6 k6;clear ds ds_ ds4 hr5 hr6 t6 g4 x4 kD5 k6 em5 O8 P5 S4 Lb gb;refine W.k7 1 2 3 4 59 60 61 λT=> ?_;repeat refine W.g ?_
   exact⟨k+1,lessN c1,XG,rfl,rfl,rfl,rfl,rfl,rfl,rfl,c1,u,O9,gb6⟩
  ·repeat refine W.g ?_
   have et:w.told.doors.take k=w.told.doors:=told_all c1 hk;rw[et]at O;clear Lb c1;obtain⟨u3,hu3⟩:∃u,u=v:=⟨_,rfl⟩;rw[<-hu3]at O gb;refine W.k7 1 2 3 4 95 96 97 λT=> ?_;refine W.loop (σ:=Nat) (λk tm h'=>Ext H h'/\tm.look 1= .ptr (some (h.next,0))/\tm.look 2= .ptr (some (Ha.next,0))/\tm.look 3= .ptr (some (H0.next,0))/\tm.look 4= .ptr (some (b,0))/\tm.look 95=v9/\tm.look 96= .int .i64 (w.routes.length:Int)/\tm.look 97= .int .i64 (k:Int)/\k<=w.routes.length/\∃v,OwnSB h' H.next b (.int .i64 w.hz) n1 u2 u3 v (.slice none 0 0 0) (.slice none 0 0 0) ⟨w.hz,w.names.stops,w.told.paths,w.told.doors,w.told.routes.take k,[],[]⟩/\h'.get b=some (.cells [.int .i64 w.hz,n1,u2,u3,v,.slice none 0 0 0,.slice none 0 0 0] false)) (λk=>w.routes.length-k) ?_ (s:=0) ⟨X,rfl,rfl,rfl,rfl,rfl,rfl,rfl,Nat.zero_le _,_,O,gb⟩;rintro k tm h' ⟨X,w1,w2,w3,w4,w95,w96,w97,hk,v,O,gb⟩;obtain⟨T,rfl⟩:=Tm.t7 w1 w2 w3 w4 w95 w96 w97;clear w1 w2 w3 w4 w95 w96 w97;have Lb:LocE h' b 0 [.int .i64 w.hz,n1,u2,u3,v,.slice none 0 0 0,.slice none 0 0 0]:=⟨_,_,gb,O.lt,rfl⟩;have nX:=X.next;have ltb:=O.lt;by_cases c1:k<w.routes.length
   ·repeat refine W.g ?_
    refine W.ixR s9 c1 rfl rfl rfl rfl rfl rfl rfl λi_ o_ e L_ re=> ?_;have hlen:=Rp.len re;have hrm:=frr _ (List.getElem_mem c1);obtain⟨c1',c2',c3',rfl,pa1,pa2,pa3⟩:=re;repeat (first|refine W.g ?_|refine W.m λh_ X_ n_ g_ L_=> ?_)
    refine W.stn (vs:=[c1',c2',c3']) (cs':=[c1',c2',c3']) rfl rfl rfl rfl rfl rfl g_ rfl λP nP gP kP=> ?_;have XP:Ext h' P:=Ext.store X_ nP kP (Nat.le_refl _) (by omega);have nXP:=XP.next;have g6:P.get h'.next=some (.cells [c1',c2',c3'] false):=gP;have L6:LocE P h'.next 0 [c1',c2',c3']:=⟨_,_,g6,by omega,rfl⟩;clear L_ g_ X_ kP gP g6;refine W.k9 1 2 3 4 95 96 97 9 10 λT=> ?_;repeat refine W.g ?_
    obtain⟨css,R1,R2⟩:=O.r;have e0:=O.hz;have ZP0:Ext h P:=(Xh.trans X).trans XP;have XPH:Ext H P:=X.trans XP;have ds:=DX.start (ZP0.fr fr);repeat (first|refine W.gd ?_|refine W.e λr_ h_ ds_ s_=> ?_)
    refine W.dixF s4 (j:=k) (by omega) rfl rfl rfl rfl rfl rfl rfl λik ok Mk=> ?_;repeat (first|refine W.gd ?_|refine W.e λr_ h_ ds_ s_=> ?_)
    have X2:=ds_.x;have nX2:=X2.next;have XX:Ext H h_:=(X.trans XP).trans X2;refine W.dcallZ ds_ rfl rfl rfl rfl (all_strI _ [] _ (atL w.names.stops) (pa1.ext (ZP0.trans X2)) (by omega) (λi hi tm h'' Q X' q=>toldStop_w L3 (s1.ext Xh) (XX.trans X') i (wr _ (List.getElem_mem c1) i hi) q) λh1 a1 Y1 O1=>DZ.val Y1 λr1 h1' ds1 s1'=> ?_);have J1:=OwnR.ids O1;have nY1:=Y1.next;have ns1:=s1'.next;have O1:=(O1.low (lo':=P.next) nX2).ext s1'.ext;obtain⟨p1,m1,y1,z1,ee⟩:=O1.form;cases ee;clear ds_ ds;repeat (first|refine W.gd ?_|refine W.e λr_ h_ ds_ s_=> ?_)
    have nns:=s_.next;have O1:=O1.ext s_.ext;have X3:=ds_.x;have nX3:=X3.next;refine W.dcallZ ds_ rfl rfl rfl rfl (clone_int (pa2.ext (ZP0.trans X3)) (by omega) λh2 a2 Y2 O2=>DZ.val Y2 λr2 h2' ds2 s2'=> ?_);have J2:=OwnR.ids O2;have nY2:=Y2.next;have ns2:=s2'.next;have O1:=(O1.ext Y2).ext s2'.ext;have O2:=(O2.low (lo':=P.next) nX3).ext s2'.ext;obtain⟨p2,m2,y2,z2,ee⟩:=O2.form;cases ee;clear ds_ ds1;repeat (first|refine W.gd ?_|refine W.e λr_ h_ ds_ s_=> ?_)
    have nns2:=s_.next;have O1:=O1.ext s_.ext;have O2:=O2.ext s_.ext;have X4:=ds_.x;have nX4:=X4.next;refine W.dcallZ ds_ rfl rfl rfl rfl (clone_int (pa3.ext (ZP0.trans X4)) (by omega) λh3 a3 Y3 O3=>DZ.val Y3 λr3 h3' ds3 s3'=> ?_);have J3:=OwnR.ids O3;have nY3:=Y3.next;have ns3:=s3'.next;have O1:=(O1.ext Y3).ext s3'.ext;have O2:=(O2.ext Y3).ext s3'.ext;have O3:=(O3.low (lo':=P.next) nX4).ext s3'.ext;obtain⟨p3,m3,y3,z3,ee⟩:=O3.form;cases ee;clear ds_ ds2;repeat refine W.gd ?_
    refine W.dnewZ ds3 rfl rfl rfl rfl λq4 D4 ds4 x4 n4 g4=> ?_;obtain⟨d4,hd4⟩:∃d4:RouteS,d4=w.routes[k].told w.names k:=⟨_,rfl⟩;obtain⟨e5,he5⟩:∃e5:List CV,e5=[.str w.names.routes[k],.slice p1 m1 y1 z1,.slice p2 m2 y2 z2,.slice p3 m3 y3 z3]:=⟨_,rfl⟩;have g4:D4.get h3'.next=some (.cells e5 false):=by rw[he5];exact g4
    have XF:=ds4.x;have nXF:=XF.next
    have OE:OwnRS D4 P.next e5 d4:=by
     refine⟨.slice p1 m1 y1 z1,.slice p2 m2 y2 z2,.slice p3 m3 y3 z3,?_,?_,?_,?_⟩
     ·rw[he5,hd4]
      show _=[CV.str (w.names.routes.getD k []),_,_,_];rw[getD_at (by omega)]
     ·rw[hd4];exact O1.ext x4
     ·rw[hd4];exact O2.ext x4
     ·rw[hd4];exact O3.ext x4
    have NDe:(idsOf e5).Nodup:=by
     have:idsOf e5=idOf (.slice p1 m1 y1 z1)++(idOf (.slice p2 m2 y2 z2)++idOf (.slice p3 m3 y3 z3)):=by
      rw[he5];simp[idsOf,idOf]
     rw[this];refine nodup_behind (n:=h1.next) (OwnR.idNodup _) (λa ha=>(J1 a ha).2) (nodup_behind (n:=h2.next) (OwnR.idNodup _) (λa ha=>(J2 a ha).2) (OwnR.idNodup _) λa ha=>by have:=(J3 a ha).1;omega) (λa ha=> ?_);rcases List.mem_append.1 ha with ha|ha
     ·have:=(J2 a ha).1;omega
     ·have:=(J3 a ha).1;omega
    have S4:SlG D4 4 (.slice (some (h3'.next,0)) 1 1 0) [e5]:=by
     have:=SlG.one (by omega) g4;rwa[OE.len]at this
    refine W.apD (H:=H) (z:=4) (l2:=[e5]) ds4.hri ((X.trans XP).trans XF) (R1.1.ext (XP.trans XF)) S4 rfl rfl rfl rfl rfl rfl rfl rfl rfl rfl rfl rfl rfl (by
     have:css.length=(w.told.routes.take k).length:=R1.2.1;rw[this,List.length_take];show(_+1)*88<=_;omega) λq5 u D5 hr5 XD5 nD5 kD5 P5 _ i5=> ?_
    have i5:=i5 (by simp);obtain⟨pp5,pm5,pc5,py5,em5⟩:=P5.form;have hc5:u.cells=some [u]:=by rw[em5];rfl
    rw[em5];repeat refine W.gd ?_
    rw[<-em5];have R2':=R2.ext (XP.trans XF);have nob:idOf v≠[b]:=λe1=>(List.nodup_append.1 R2.nd).2.2 b (by simp[idsR,e1]) b (by simp) rfl;refine W.dst (vs:=[u]) (cs':=[.int .i64 w.hz,n1,u2,u3,u,.slice none 0 0 0,.slice none 0 0 0]) hr5 rfl rfl rfl rfl hc5 rfl rfl ((kD5 b (by omega) (.inr nob)).trans (((XP.trans XF).old b (by omega)).trans gb)) rfl λq6 D6 hr6 t6=> ?_;repeat refine W.gd ?_
    have n6:D6.next=D5.next:=t6.next;have k6:∀k,k≠b->D6.get k=D5.get k:=λk hk=>by rw[t6.get,Heap.get_put,if_neg (Ne.symm hk)]
    have gb6:D6.get b=some (.cells [.int .i64 w.hz,n1,u2,u3,u,.slice none 0 0 0,.slice none 0 0 0] false):=by rw[t6.get,put_same]
    have XG:Ext H D6:=Ext.store XD5 n6 k6 (by omega) (by omega)
    have O8:OwnSB D5 H.next b (.int .i64 w.hz) n1 u2 u3 u (.slice none 0 0 0) (.slice none 0 0 0) ⟨w.hz,w.names.stops,w.told.paths,w.told.doors,w.told.routes.take (k+1),[],[]⟩:=by
     have:=OwnSB.route (h':=D5) (j:=D4.next) e0 (R1.ext (XP.trans XF)) R2' OE (by omega) (λa ha=>by have:=(R2.lt a ha).2;omega) NDe nD5 kD5 P5 i5 (Nat.le_refl _);rw[show w.told.routes.take (k+1)=w.told.routes.take k++[d4]from by rw[hd4];exact told_take c1];exact this
    have O9:=O8.put n6 k6;clear ds3 ds4 hr5 hr6 t6 g4 x4 kD5 k6 em5 O8 P5 S4 Lb gb O1 O2 O3 OE R1 R2 R2';refine W.k7 1 2 3 4 95 96 97 λT=> ?_;repeat refine W.g ?_
    exact⟨k+1,lessN c1,XG,rfl,rfl,rfl,rfl,rfl,rfl,rfl,c1,u,O9,gb6⟩
   ·repeat refine W.g ?_
    have et:w.told.routes.take k=w.told.routes:=told_all c1 hk;rw[et]at O;clear Lb c1;obtain⟨ur,hur⟩:∃u,u=v:=⟨_,rfl⟩;rw[<-hur]at O gb;refine W.k7 1 2 3 4 125 126 127 λT=> ?_;refine W.loop (σ:=Nat) (λk tm h'=>Ext H h'/\tm.look 1= .ptr (some (h.next,0))/\tm.look 2= .ptr (some (Ha.next,0))/\tm.look 3= .ptr (some (H0.next,0))/\tm.look 4= .ptr (some (b,0))/\tm.look 125=v10/\tm.look 126= .int .i64 (w.trips.length:Int)/\tm.look 127= .int .i64 (k:Int)/\k<=w.trips.length/\∃v,OwnSB h' H.next b (.int .i64 w.hz) n1 u2 u3 ur v (.slice none 0 0 0) ⟨w.hz,w.names.stops,w.told.paths,w.told.doors,w.told.routes,w.told.trips.take k,[]⟩/\h'.get b=some (.cells [.int .i64 w.hz,n1,u2,u3,ur,v,.slice none 0 0 0] false)) (λk=>w.trips.length-k) ?_ (s:=0) ⟨X,rfl,rfl,rfl,rfl,rfl,rfl,rfl,Nat.zero_le _,_,O,gb⟩;rintro k tm h' ⟨X,w1,w2,w3,w4,w125,w126,w127,hk,v,O,gb⟩;obtain⟨T,rfl⟩:=Tm.t7 w1 w2 w3 w4 w125 w126 w127;clear w1 w2 w3 w4 w125 w126 w127;have Lb:LocE h' b 0 [.int .i64 w.hz,n1,u2,u3,ur,v,.slice none 0 0 0]:=⟨_,_,gb,O.lt,rfl⟩;have nX:=X.next;have ltb:=O.lt;by_cases c1:k<w.trips.length
    ·repeat refine W.g ?_
     refine W.ixF s10 c1 rfl rfl rfl rfl rfl rfl rfl λi_ o_ L_=> ?_;repeat (first|refine W.g ?_|refine W.m λh_ X_ n_ g_ L_=> ?_)
     obtain⟨ja,ea,hja⟩:=(wt _ (List.getElem_mem c1)).ex;refine W.stn (vs:=Flat.enc w.trips[k]) (cs':=Flat.enc w.trips[k]) rfl rfl rfl rfl rfl rfl g_ rfl λP nP gP kP=> ?_;have XP:Ext h' P:=Ext.store X_ nP kP (Nat.le_refl _) (by omega);have nXP:=XP.next
     have L6:LocE P h'.next 0 [.int .i64 (ja:Int),.int .i64 w.trips[k].frm,.int .i64 w.trips[k].evr,.int .i64 w.trips[k].untl]:=by
      have g6:P.get h'.next=some (.cells (Flat.enc w.trips[k]) false):=gP;have:(Flat.enc w.trips[k]:List CV)=[.int .i64 (ja:Int),.int .i64 w.trips[k].frm,.int .i64 w.trips[k].evr,.int .i64 w.trips[k].untl]:=by show[CV.int .i64 w.trips[k].route,.int .i64 w.trips[k].frm,.int .i64 w.trips[k].evr,.int .i64 w.trips[k].untl]=_;rw[ea]
      rw[this]at g6;exact⟨_,_,g6,by omega,rfl⟩
     clear L_ g_ X_ kP gP;refine W.k9 1 2 3 4 125 126 127 11 12 λT=> ?_;repeat refine W.g ?_
     have ds:=DX.start (((Xh.trans X).trans XP).fr fr);repeat (first|refine W.gd ?_|refine W.e λr_ h_ ds_ s_=> ?_)
     refine W.dixF s5 (j:=k) (by omega) rfl rfl rfl rfl rfl rfl rfl λik ok Mk=> ?_;repeat (first|refine W.gd ?_|refine W.e λr_ h_ ds_ s_=> ?_)
     refine W.dixF s4 (j:=ja) hja rfl rfl rfl rfl rfl rfl rfl λija oja Mja=> ?_;repeat (first|refine W.gd ?_|refine W.e λr_ h_ ds_ s_=> ?_)
     refine W.dnewZ ds_ rfl rfl rfl rfl λq4 D4 ds4 x4 n4 g4=> ?_;obtain⟨e4,he4⟩:∃e4:TripS,e4=w.trips[k].told w.names k:=⟨_,rfl⟩
     have g4:D4.get h_.next=some (.cells (Flat.enc e4) false):=by
      rw[he4,show w.trips[k].told w.names k=(⟨w.names.trips[k],w.names.routes[ja],w.trips[k].frm,w.trips[k].evr,w.trips[k].untl⟩:TripS)from by unfold TripW.told;rw[getD_at (by omega),ea,atL_at hja]];exact g4
     have XF:=ds4.x;have nXF:=XF.next
     have S4:SlG D4 5 (.slice (some (h_.next,0)) 1 1 0) [Flat.enc e4]:=by
      have:=SlG.one (by omega) g4;rwa[show(Flat.enc e4).length=5 from rfl]at this
     refine W.apD (H:=H) (z:=5) (l2:=[Flat.enc e4]) ds4.hri ((X.trans XP).trans XF) (O.own_trips.1.ext (XP.trans XF)) S4 rfl rfl rfl rfl rfl rfl rfl rfl rfl rfl rfl rfl rfl (by
      rw[List.length_map,List.length_take];show(_+1)*56<=_;omega) λq5 u D5 hr5 XD5 nD5 kD5 P5 _ i5=> ?_
     have i5:=i5 (by simp);obtain⟨pp5,pm5,pc5,py5,em5⟩:=P5.form;have hc5:u.cells=some [u]:=by rw[em5];rfl
     rw[em5];repeat refine W.gd ?_
     rw[<-em5];refine W.dst (vs:=[u]) (cs':=[.int .i64 w.hz,n1,u2,u3,ur,u,.slice none 0 0 0]) hr5 rfl rfl rfl rfl hc5 rfl rfl ((kD5 b (by omega) (.inr O.own_trips.2)).trans (((XP.trans XF).old b (by omega)).trans gb)) rfl λq6 D6 hr6 t6=> ?_;repeat refine W.gd ?_
     have n6:D6.next=D5.next:=t6.next;have k6:∀k,k≠b->D6.get k=D5.get k:=λk hk=>by rw[t6.get,Heap.get_put,if_neg (Ne.symm hk)]
     have gb6:D6.get b=some (.cells [.int .i64 w.hz,n1,u2,u3,ur,u,.slice none 0 0 0] false):=by rw[t6.get,put_same]
     have XG:Ext H D6:=Ext.store XD5 n6 k6 (by omega) (by omega);have O8:OwnSB D5 H.next b (.int .i64 w.hz) n1 u2 u3 ur u (.slice none 0 0 0) ⟨w.hz,w.names.stops,w.told.paths,w.told.doors,w.told.routes,w.told.trips.take (k+1),[]⟩:=(O.ext (XP.trans XF)).trips (h':=D5) (l:=w.told.trips.take (k+1)) nD5 kD5 (by rw[show w.told.trips.take (k+1)=w.told.trips.take k++[e4]from by rw[he4];exact told_take c1,List.map_append];exact P5) (.inr ⟨_,i5,by omega⟩);have O9:=O8.put n6 k6;clear ds ds_ ds4 hr5 hr6 t6 g4 x4 kD5 k6 em5 O8 P5 S4 Lb gb;refine W.k7 1 2 3 4 125 126 127 λT=> ?_;repeat refine W.g ?_
     exact⟨k+1,lessN c1,XG,rfl,rfl,rfl,rfl,rfl,rfl,rfl,c1,u,O9,gb6⟩
    ·repeat refine W.g ?_
     have et:w.told.trips.take k=w.told.trips:=told_all c1 hk;rw[et]at O;clear Lb c1;obtain⟨u5,hu5⟩:∃u,u=v:=⟨_,rfl⟩;rw[<-hu5]at O gb;refine W.k7 1 2 3 4 157 158 159 λT=> ?_;refine W.loop (σ:=Nat) (λk tm h'=>Ext H h'/\tm.look 1= .ptr (some (h.next,0))/\tm.look 2= .ptr (some (Ha.next,0))/\tm.look 3= .ptr (some (H0.next,0))/\tm.look 4= .ptr (some (b,0))/\tm.look 157=v11/\tm.look 158= .int .i64 (w.hazards.length:Int)/\tm.look 159= .int .i64 (k:Int)/\k<=w.hazards.length/\∃v,OwnSB h' H.next b (.int .i64 w.hz) n1 u2 u3 ur u5 v ⟨w.hz,w.names.stops,w.told.paths,w.told.doors,w.told.routes,w.told.trips,w.told.hazards.take k⟩/\h'.get b=some (.cells [.int .i64 w.hz,n1,u2,u3,ur,u5,v] false)) (λk=>w.hazards.length-k) ?_ (s:=0) ⟨X,rfl,rfl,rfl,rfl,rfl,rfl,rfl,Nat.zero_le _,_,O,gb⟩;rintro k tm h' ⟨X,w1,w2,w3,w4,w157,w158,w159,hk,v,O,gb⟩;obtain⟨T,rfl⟩:=Tm.t7 w1 w2 w3 w4 w157 w158 w159;clear w1 w2 w3 w4 w157 w158 w159;have Lb:LocE h' b 0 [.int .i64 w.hz,n1,u2,u3,ur,u5,v]:=⟨_,_,gb,O.lt,rfl⟩;have nX:=X.next;have ltb:=O.lt;by_cases c1:k<w.hazards.length
     ·cases hst:w.hazards[k].stop
      ·repeat refine W.g ?_
       refine W.ixF s11 c1 rfl rfl rfl rfl rfl rfl rfl λi_ o_ L_=> ?_;repeat (first|refine W.g ?_|refine W.m λh_ X_ n_ g_ L_=> ?_)
       refine W.stn (vs:=Flat.enc w.hazards[k]) (cs':=Flat.enc w.hazards[k]) rfl rfl rfl rfl rfl rfl g_ rfl λP nP gP kP=> ?_;have XP:Ext h' P:=Ext.store X_ nP kP (Nat.le_refl _) (by omega);have nXP:=XP.next
       obtain⟨ja,ea,hja⟩:∃j:Nat,w.hazards[k].on=j/\j<w.names.paths.length:=by
        have:=wh _ (List.getElem_mem c1);rw[hst]at this;exact inL.ex this
       have L6:LocE P h'.next 0 [.bool false,.int .i64 (ja:Int),.int .i64 w.hazards[k].times.frm,.int .i64 w.hazards[k].times.evr,.int .i64 w.hazards[k].times.len]:=by
        have g6:P.get h'.next=some (.cells (Flat.enc w.hazards[k]) false):=gP
        have:(Flat.enc w.hazards[k]:List CV)=[.bool false,.int .i64 (ja:Int),.int .i64 w.hazards[k].times.frm,.int .i64 w.hazards[k].times.evr,.int .i64 w.hazards[k].times.len]:=by
         show[CV.bool w.hazards[k].stop,.int .i64 w.hazards[k].on,.int .i64 w.hazards[k].times.frm,.int .i64 w.hazards[k].times.evr,.int .i64 w.hazards[k].times.len]=_;rw[ea,hst]
        rw[this]at g6;exact⟨_,_,g6,by omega,rfl⟩
       clear L_ g_ X_ kP gP;refine W.k9 1 2 3 4 157 158 159 13 14 λT=> ?_;repeat refine W.g ?_
       have ds:=DX.start (((Xh.trans X).trans XP).fr fr);repeat (first|refine W.gd ?_|refine W.e λr_ h_ ds_ s_=> ?_)
       refine W.dixF s6 (j:=k) (by omega) rfl rfl rfl rfl rfl rfl rfl λik ok Mk=> ?_;repeat (first|refine W.gd ?_|refine W.e λr_ h_ ds_ s_=> ?_)
       refine W.dixF s2 (j:=ja) hja rfl rfl rfl rfl rfl rfl rfl λija oja Mja=> ?_;repeat (first|refine W.gd ?_|refine W.e λr_ h_ ds_ s_=> ?_)
       refine W.dnewZ ds_ rfl rfl rfl rfl λq4 D4 ds4 x4 n4 g4=> ?_;obtain⟨e4,he4⟩:∃e4:HazS,e4=w.hazards[k].told w.names k:=⟨_,rfl⟩
       have g4:D4.get h_.next=some (.cells (Flat.enc e4) false):=by
        rw[he4,show w.hazards[k].told w.names k=(⟨w.names.hazards[k],w.names.paths[ja],w.hazards[k].times⟩:HazS)from by unfold HazW.told;rw[getD_at (by omega),ea,hst];show(⟨_,atL w.names.paths (ja:Int),_⟩:HazS)=_;rw[atL_at hja]];exact g4
       have XF:=ds4.x;have nXF:=XF.next
       have S4:SlG D4 5 (.slice (some (h_.next,0)) 1 1 0) [Flat.enc e4]:=by
        have:=SlG.one (by omega) g4;rwa[show(Flat.enc e4).length=5 from rfl]at this
       refine W.apD (H:=H) (z:=5) (l2:=[Flat.enc e4]) ds4.hri ((X.trans XP).trans XF) (O.own_hazards.1.ext (XP.trans XF)) S4 rfl rfl rfl rfl rfl rfl rfl rfl rfl rfl rfl rfl rfl (by
        rw[List.length_map,List.length_take];show(_+1)*56<=_;omega) λq5 u D5 hr5 XD5 nD5 kD5 P5 _ i5=> ?_
       have i5:=i5 (by simp);obtain⟨pp5,pm5,pc5,py5,em5⟩:=P5.form;have hc5:u.cells=some [u]:=by rw[em5];rfl
       rw[em5];repeat refine W.gd ?_
       rw[<-em5];refine W.dst (vs:=[u]) (cs':=[.int .i64 w.hz,n1,u2,u3,ur,u5,u]) hr5 rfl rfl rfl rfl hc5 rfl rfl ((kD5 b (by omega) (.inr O.own_hazards.2)).trans (((XP.trans XF).old b (by omega)).trans gb)) rfl λq6 D6 hr6 t6=> ?_;repeat refine W.gd ?_
       have n6:D6.next=D5.next:=t6.next;have k6:∀k,k≠b->D6.get k=D5.get k:=λk hk=>by rw[t6.get,Heap.get_put,if_neg (Ne.symm hk)]
       have gb6:D6.get b=some (.cells [.int .i64 w.hz,n1,u2,u3,ur,u5,u] false):=by rw[t6.get,put_same]
       have XG:Ext H D6:=Ext.store XD5 n6 k6 (by omega) (by omega);have O8:OwnSB D5 H.next b (.int .i64 w.hz) n1 u2 u3 ur u5 u ⟨w.hz,w.names.stops,w.told.paths,w.told.doors,w.told.routes,w.told.trips,w.told.hazards.take (k+1)⟩:=(O.ext (XP.trans XF)).hazards (h':=D5) (l:=w.told.hazards.take (k+1)) nD5 kD5 (by rw[show w.told.hazards.take (k+1)=w.told.hazards.take k++[e4]from by rw[he4];exact told_take c1,List.map_append];exact P5) (.inr ⟨_,i5,by omega⟩);have O9:=O8.put n6 k6;clear ds ds_ ds4 hr5 hr6 t6 g4 x4 kD5 k6 em5 O8 P5 S4 Lb gb;refine W.k7 1 2 3 4 157 158 159 λT=> ?_;repeat refine W.g ?_
       exact⟨k+1,lessN c1,XG,rfl,rfl,rfl,rfl,rfl,rfl,rfl,c1,u,O9,gb6⟩
      ·repeat refine W.g ?_
       refine W.ixF s11 c1 rfl rfl rfl rfl rfl rfl rfl λi_ o_ L_=> ?_;repeat (first|refine W.g ?_|refine W.m λh_ X_ n_ g_ L_=> ?_)
       refine W.stn (vs:=Flat.enc w.hazards[k]) (cs':=Flat.enc w.hazards[k]) rfl rfl rfl rfl rfl rfl g_ rfl λP nP gP kP=> ?_;have XP:Ext h' P:=Ext.store X_ nP kP (Nat.le_refl _) (by omega);have nXP:=XP.next
       obtain⟨ja,ea,hja⟩:∃j:Nat,w.hazards[k].on=j/\j<w.names.stops.length:=by
        have:=wh _ (List.getElem_mem c1);rw[hst]at this;exact inL.ex this
       have L6:LocE P h'.next 0 [.bool true,.int .i64 (ja:Int),.int .i64 w.hazards[k].times.frm,.int .i64 w.hazards[k].times.evr,.int .i64 w.hazards[k].times.len]:=by
        have g6:P.get h'.next=some (.cells (Flat.enc w.hazards[k]) false):=gP
        have:(Flat.enc w.hazards[k]:List CV)=[.bool true,.int .i64 (ja:Int),.int .i64 w.hazards[k].times.frm,.int .i64 w.hazards[k].times.evr,.int .i64 w.hazards[k].times.len]:=by
         show[CV.bool w.hazards[k].stop,.int .i64 w.hazards[k].on,.int .i64 w.hazards[k].times.frm,.int .i64 w.hazards[k].times.evr,.int .i64 w.hazards[k].times.len]=_;rw[ea,hst]
        rw[this]at g6;exact⟨_,_,g6,by omega,rfl⟩
       clear L_ g_ X_ kP gP;refine W.k9 1 2 3 4 157 158 159 13 14 λT=> ?_;repeat refine W.g ?_
       have ds:=DX.start (((Xh.trans X).trans XP).fr fr);repeat (first|refine W.gd ?_|refine W.e λr_ h_ ds_ s_=> ?_)
       refine W.dixF s6 (j:=k) (by omega) rfl rfl rfl rfl rfl rfl rfl λik ok Mk=> ?_;repeat (first|refine W.gd ?_|refine W.e λr_ h_ ds_ s_=> ?_)
       refine W.dixF s1 (j:=ja) hja rfl rfl rfl rfl rfl rfl rfl λija oja Mja=> ?_;repeat (first|refine W.gd ?_|refine W.e λr_ h_ ds_ s_=> ?_)
       refine W.dnewZ ds_ rfl rfl rfl rfl λq4 D4 ds4 x4 n4 g4=> ?_;obtain⟨e4,he4⟩:∃e4:HazS,e4=w.hazards[k].told w.names k:=⟨_,rfl⟩
       have g4:D4.get h_.next=some (.cells (Flat.enc e4) false):=by
        rw[he4,show w.hazards[k].told w.names k=(⟨w.names.hazards[k],w.names.stops[ja],w.hazards[k].times⟩:HazS)from by unfold HazW.told;rw[getD_at (by omega),ea,hst];show(⟨_,atL w.names.stops (ja:Int),_⟩:HazS)=_;rw[atL_at hja]];exact g4
       have XF:=ds4.x;have nXF:=XF.next
       have S4:SlG D4 5 (.slice (some (h_.next,0)) 1 1 0) [Flat.enc e4]:=by
        have:=SlG.one (by omega) g4;rwa[show(Flat.enc e4).length=5 from rfl]at this
       refine W.apD (H:=H) (z:=5) (l2:=[Flat.enc e4]) ds4.hri ((X.trans XP).trans XF) (O.own_hazards.1.ext (XP.trans XF)) S4 rfl rfl rfl rfl rfl rfl rfl rfl rfl rfl rfl rfl rfl (by
        rw[List.length_map,List.length_take];show(_+1)*56<=_;omega) λq5 u D5 hr5 XD5 nD5 kD5 P5 _ i5=> ?_
       have i5:=i5 (by simp);obtain⟨pp5,pm5,pc5,py5,em5⟩:=P5.form;have hc5:u.cells=some [u]:=by rw[em5];rfl
       rw[em5];repeat refine W.gd ?_
       rw[<-em5];refine W.dst (vs:=[u]) (cs':=[.int .i64 w.hz,n1,u2,u3,ur,u5,u]) hr5 rfl rfl rfl rfl hc5 rfl rfl ((kD5 b (by omega) (.inr O.own_hazards.2)).trans (((XP.trans XF).old b (by omega)).trans gb)) rfl λq6 D6 hr6 t6=> ?_;repeat refine W.gd ?_
       have n6:D6.next=D5.next:=t6.next;have k6:∀k,k≠b->D6.get k=D5.get k:=λk hk=>by rw[t6.get,Heap.get_put,if_neg (Ne.symm hk)]
       have gb6:D6.get b=some (.cells [.int .i64 w.hz,n1,u2,u3,ur,u5,u] false):=by rw[t6.get,put_same]
       have XG:Ext H D6:=Ext.store XD5 n6 k6 (by omega) (by omega);have O8:OwnSB D5 H.next b (.int .i64 w.hz) n1 u2 u3 ur u5 u ⟨w.hz,w.names.stops,w.told.paths,w.told.doors,w.told.routes,w.told.trips,w.told.hazards.take (k+1)⟩:=(O.ext (XP.trans XF)).hazards (h':=D5) (l:=w.told.hazards.take (k+1)) nD5 kD5 (by rw[show w.told.hazards.take (k+1)=w.told.hazards.take k++[e4]from by rw[he4];exact told_take c1,List.map_append];exact P5) (.inr ⟨_,i5,by omega⟩);have O9:=O8.put n6 k6;clear ds ds_ ds4 hr5 hr6 t6 g4 x4 kD5 k6 em5 O8 P5 S4 Lb gb;refine W.k7 1 2 3 4 157 158 159 λT=> ?_;repeat refine W.g ?_
       exact⟨k+1,lessN c1,XG,rfl,rfl,rfl,rfl,rfl,rfl,rfl,c1,u,O9,gb6⟩
     ·repeat refine W.g ?_
      have et:w.told.hazards.take k=w.told.hazards:=told_all c1 hk;rw[et]at O;clear Lb c1;have nx0:=X.next;refine W.stn (vs:=[.int .i64 w.hz,n1,u2,u3,ur,u5,v]) (cs':=[.int .i64 w.hz,n1,u2,u3,ur,u5,v]) rfl rfl rfl rfl rfl rfl ((X.old Ha.next (by omega)).trans g0) rfl λM nM gM kM=> ?_;repeat refine W.g ?_
      refine BodyQ.cell1 rfl rfl gM rfl rfl ?_;exact q M _ (Ext.store (Xh.trans X) nM kM (by have:=Xa.next;omega) (by omega)) (λJ hJ kJ=>OwnSB.rp ((O.keep (h':=M) (by omega) λa h1 h2=>kM a (by omega)).keep (h':=J) hJ λa h1 h2=>kJ a (by have:=Xh.next;omega) h2))
theorem told_w {h:Heap} {tm:Tm} {Q:R->Prop} {cs:List CV} {w:WorldD} (r:Rp.R h cs w) (fr:Fresh h) (hw:w.whole) (sm:w.small) (q:∀h' e,Ext h h'->Rp.R h' e w.told->Q (.val (.agg e) h')):W E1 (.call (.fn 143 [] []) [.agg cs]) tm h Q:=
 told_w0 r fr hw sm λh' e X s=>q h' e X (s h' (Nat.le_refl _) λ_ _ _=>rfl)
end
end Go.Proofs.YtnjkaahbhebaeaaGreatDoor

namespace Go.Proofs.YtnjkaahbhebaeaaGreatDoor
open Go Go.CM Go.CM.Tt
noncomputable section
set_option maxHeartbeats 16000000
set_option maxRecDepth 100000
theorem check_w {h:Heap} {tm:Tm} {Q:R->Prop} {cs:List CV} {w:WorldD} (r:Rp.R h cs w) (rh:RH h) (fr:Fresh h) (sm:w.small) (sl:w.whole->w.told.slim) (q:∀h',Ext h h'->Q (.val (.agg w.check.enc) h')):W E1 (.call (.fn 65 [] []) [.agg cs]) tm h Q:=by
 have r0:=r;obtain⟨v1,v2,v3,v4,v5,v6,v7,v8,v9,v10,v11,rfl,_⟩:=r;refine W.fn (s:=fnOf Tryz.f65) rfl rfl rfl rfl ?_;repeat (refine W.seq ?_)
 refine W.region ?_;refine W.box rfl rfl rfl λHa Xa na ga La=> ?_;refine W.al rfl rfl rfl λH0 X0 n0 g0 L0=> ?_;clear L0;have g0:H0.get Ha.next=some (.cells [.int .i64 0,.int .i64 0,.int .i64 0] false):=g0;have L1:=La.ext X0;have X1:=Xa.trans X0;have nX1:=X1.next;clear La;repeat refine W.g ?_
 refine W.call rfl rfl rfl (whole_w (Rp.ext X1 r0) sm λH2 b X2 hb=> ?_);have L1:=L1.ext X2;have g0:=(X2.old _ (by omega)).trans g0;have Y2:=X1.trans X2;have nX2:=X2.next;refine W.k3 1 2 6 λT=> ?_;cases b
 case false=>
  have e:w.check=⟨2,0,0⟩:=by unfold WorldD.check;rw[if_neg (λh=>by cases hb.2 h)]
  rw[e]at q;repeat refine W.g ?_
  refine W.stn (vs:=[.int .i64 2,.int .i64 0,.int .i64 0]) (cs':=[.int .i64 2,.int .i64 0,.int .i64 0]) rfl rfl rfl rfl rfl rfl g0 rfl λM nM gM kM=> ?_;repeat refine W.g ?_
  refine BodyQ.cell1 rfl rfl gM rfl rfl ?_;exact q M (Ext.store Y2 nM kM (by omega) (by omega))
 have hw:=hb.1 rfl;have e:w.check=w.told.make.2:=by unfold WorldD.check;rw[if_pos hw]
 rw[e]at q;repeat refine W.g ?_
 refine W.call rfl rfl rfl (told_w (Rp.ext Y2 r0) (Y2.fr fr) hw sm λH3 e3 X3 r3=> ?_);have Y3:=Y2.trans X3;have nX3:=X3.next;have g0:=(X3.old _ (by omega)).trans g0;have r30:=r3;obtain⟨x1,x2,x3,x4,x5,x6,rfl,_⟩:=r3;refine W.k3 1 2 11 λT=> ?_;refine W.call rfl rfl rfl (make_w r30 (rh.ext Y3) (Y3.fr fr) (sl hw) λH4 c4 X4 r4=> ?_);have Y4:=Y3.trans X4;have nX4:=X4.next;have g0:=(X4.old _ (by omega)).trans g0;obtain⟨u1,u2,u3,u4,u5,u6,u7,u8,u9,u10,u11,rfl,_⟩:=r4;clear L1;refine W.k3 1 2 12 λT=> ?_;repeat (first|refine W.g ?_|refine W.m λh_ X_ n_ g_ L_=> ?_)
 rename_i M2 j2 n2 g2 L2;clear L2 L_;have g2:=(X_.old H4.next (by omega)).trans g2;have g0:=((j2.trans X_).old _ (by omega)).trans g0;refine W.stn (vs:=[.int .i64 w.told.make.1.hz,u1,u2,u3,u4,u5,u6,u7,u8,u9,u10,u11]) (cs':=[.int .i64 w.told.make.1.hz,u1,u2,u3,u4,u5,u6,u7,u8,u9,u10,u11]) rfl rfl rfl rfl rfl rfl g2 rfl λM4 m4 h4 k4=> ?_;refine W.stn (vs:=w.told.make.2.enc) (cs':=w.told.make.2.enc) rfl rfl rfl rfl rfl rfl ((k4 M2.next (by omega)).trans g_) rfl λM5 m5 h5 k5=> ?_;have J5:Ext H4 M5:=Ext.store (Ext.store (j2.trans X_) m4 k4 (by omega) (by omega)) m5 k5 (by omega) (by omega);have Lf:LocE M5 M2.next 0 w.told.make.2.enc:=⟨_,_,h5,by omega,rfl⟩;have g0:=(k5 Ha.next (by omega)).trans ((k4 Ha.next (by omega)).trans g0);clear X_ g2 g_ h4 k4 k5 j2;refine W.k3 1 2 4 λT=> ?_;repeat refine W.g ?_
 refine W.stn (vs:=w.told.make.2.enc) (cs':=w.told.make.2.enc) rfl rfl rfl rfl rfl rfl g0 rfl λM nM gM kM=> ?_;repeat refine W.g ?_
 refine BodyQ.cell1 rfl rfl gM rfl rfl ?_;exact q M (Ext.store (Y4.trans J5) nM kM (by omega) (by omega))
end
end Go.Proofs.YtnjkaahbhebaeaaGreatDoor
