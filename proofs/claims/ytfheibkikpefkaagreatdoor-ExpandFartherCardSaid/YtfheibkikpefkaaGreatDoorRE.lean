/- The document's answer: a sheet's names. No condition but that memory beyond the next number is empty. -/
import Derived.Test.YtfheibkikpefkaaGreatDoorXU
import Derived.Test.YtfheibkikpefkaaGreatDoorYM
import Derived.Test.YtfheibkikpefkaaGreatDoorXQ7
import Derived.Test.YtfheibkikpefkaaGreatDoorRD
import Derived.Test.YtfheibkikpefkaaGreatDoorXQ4
import Derived.Test.YtfheibkikpefkaaGreatDoorZW
set_option linter.unusedVariables false
set_option linter.unusedSimpArgs false
namespace Go.Proofs.YtfheibkikpefkaaGreatDoor
open Go Go.CM Go.CM.Tt
noncomputable section
set_option maxHeartbeats 16000000
theorem rnamed_w {h:Heap} {tm:Tm} {Q:R->Prop} {cs:List CV} {x:SheetD} (r:Rp.R h cs x) (fr:Fresh h) (few:x.few)
  (q:∀h' u1 u2 u3 u4 u5 u6,Ext h h'->OwnG h' h.next [(1,u1,x.stops.map Flat.enc),(1,u2,(x.paths.map (·.name)).map Flat.enc),(1,u3,(x.doors.map (·.name)).map Flat.enc),(1,u4,(x.routes.map (·.name)).map Flat.enc),(1,u5,(x.trips.map (·.name)).map Flat.enc),(1,u6,(x.hazards.map (·.name)).map Flat.enc)] []->Q (.val (.agg [u1,u2,u3,u4,u5,u6]) h')):W E1 (.call (.fn 134 [] []) [.agg cs]) tm h Q:=by
 obtain⟨v1,v2,v3,v4,v5,v6,rfl,s1,s2,s3,s4,s5,s6⟩:=r;obtain⟨f1,f2,f3,f4,f5,f6⟩:=few;refine W.fn (s:=fnOf Tryz.f134) rfl rfl rfl rfl ?_;repeat (refine W.seq ?_)
 refine W.region ?_;refine W.box rfl rfl rfl λH1 XH1 nH1 gH1 LH1=> ?_;repeat (first|refine W.g ?_|refine W.m λh_ X_ n_ g_ L_=> ?_|refine W.n λh_ X_ n_ g_ S_=> ?_)
 rename_i H XA nA gA;have LA:=L_;have S2:=S_;obtain⟨h2,hh2⟩:∃h2,h2=h_:=⟨_,rfl⟩;rw[<-hh2]at X_ n_ g_ S_ S2 ⊢;have X2:=X_;have n2:=n_;have g2:=g_;clear X_ n_ g_ S_ L_ hh2;have XH:Ext h H:=XH1.trans XA;have LH:=LH1.ext XA;have gR:H.get H1.next=some (.cells [.slice none 0 0 0,.slice none 0 0 0,.slice none 0 0 0,.slice none 0 0 0,.slice none 0 0 0,.slice none 0 0 0] false):=gA;have sg:=(Sl.to_map Flat.iff s1).ext (XH.trans X2);refine W.apR X2 (z:=1) (l:=[]) (l2:=x.stops.map Flat.enc) (.inr ⟨H.next,0,false,rfl,Nat.le_refl _,by omega,g2,λe he=>(by cases he),.inl ⟨rfl,.inl rfl⟩⟩) sg rfl rfl rfl rfl rfl rfl rfl rfl rfl rfl rfl rfl (by rw[List.length_map];show(0+_)*16<=_;omega) λu1 h3 X3 O1=> ?_;rw[List.nil_append]at O1;obtain⟨pv,nv,cv,xv,e⟩:=O1.form;subst e;repeat (first|refine W.g ?_|refine W.m λh_ X_ n_ g_ L_=> ?_)
 obtain⟨u1,hu1⟩:∃u1,u1=CV.slice pv nv cv xv:=⟨_,rfl⟩;rw[<-hu1]at O1 g_ L_ ⊢;have hc1:u1.cells=some [u1]:=by rw[hu1];rfl
 obtain⟨b,hb⟩:∃b,b=h3.next:=⟨_,rfl⟩;rw[<-hb]at g_ L_ ⊢;have nX3:=X3.next;have t2:=s2.ext XH;have t3:=s3.ext XH;have t4:=s4.ext XH;have t5:=s5.ext XH;have t6:=s6.ext XH;have X:=X3.trans X_;have gb:h_.get b=some (.cells [u1,.slice none 0 0 0,.slice none 0 0 0,.slice none 0 0 0,.slice none 0 0 0,.slice none 0 0 0] false):=g_
 have O:OwnG h_ H.next [(1,u1,x.stops.map Flat.enc),(1,.slice none 0 0 0,[]),(1,.slice none 0 0 0,[]),(1,.slice none 0 0 0,[]),(1,.slice none 0 0 0,[]),(1,.slice none 0 0 0,[])] [b]:=by
  have i1:=OwnR.ids O1;refine OwnG.box (h:=h3) ⟨λr hr=> ?_,?_,λk hk=>by cases hk⟩ X_ nX3 (by omega) (by omega)
  ·simp only[List.mem_cons,List.not_mem_nil,or_false]at hr
   rcases hr with rfl|rfl|rfl|rfl|rfl|rfl
   ·exact O1
   all_goals exact OwnR.nil
  ·rw[show idsR [(1,u1,x.stops.map Flat.enc),(1,.slice none 0 0 0,[]),(1,.slice none 0 0 0,[]),(1,.slice none 0 0 0,[]),(1,.slice none 0 0 0,[]),(1,.slice none 0 0 0,[])]++[]=idOf u1 by simp[idsR,idOf]]
   exact OwnR.idNodup _
 clear s1 s2 s3 s4 s5 s6 sg X3 X2 S2 g2 O1 L_ g_ X_ LA gA LH1 gH1;refine W.k4 1 2 3 4 λT=> ?_
 refine W.loop (σ:=Nat) (λk tm h'=>Ext H h'/\tm.look 1= .ptr (some (h.next,0))/\tm.look 2= .ptr (some (H1.next,0))/\tm.look 3= .ptr (some (b,0))/\tm.look 4= .int .i64 (k:Int)/\k<=x.paths.length/\∃v:CV,OwnG h' H.next [(1,u1,x.stops.map Flat.enc),(1,v,((x.paths.take k).map (·.name)).map Flat.enc),(1,.slice none 0 0 0,[]),(1,.slice none 0 0 0,[]),(1,.slice none 0 0 0,[]),(1,.slice none 0 0 0,[])] [b]/\h'.get b=some (.cells [u1,v,.slice none 0 0 0,.slice none 0 0 0,.slice none 0 0 0,.slice none 0 0 0] false)) (λk=>x.paths.length-k) ?_ (s:=0)
  ⟨Ext.x,rfl,rfl,rfl,rfl,Nat.zero_le _,_,O,gb⟩
 clear O gb X;rintro k tm h' ⟨X,w1,w2,w3,w4,hk,v,O,gb⟩;obtain⟨T,rfl⟩:=Tm.t4 w1 w2 w3 w4;clear w1 w2 w3 w4;have nX:=X.next;have hbx:=O.x b (by simp);have Lb:LocE h' b 0 [u1,v,.slice none 0 0 0,.slice none 0 0 0,.slice none 0 0 0,.slice none 0 0 0]:=⟨_,_,gb,hbx.2,rfl⟩;by_cases c1:k<x.paths.length
 ·repeat refine W.g ?_
  have ds:=DX.start ((XH.trans X).fr fr);repeat (first|refine W.gd ?_|refine W.e λr_ h_ ds_ s_=> ?_)
  refine W.dixF t2 c1 rfl rfl rfl rfl rfl rfl rfl λi1 o1 L1=> ?_;repeat (first|refine W.gd ?_|refine W.e λr_ h_ ds_ s_=> ?_)
  refine W.dnewZ ds_ rfl rfl rfl rfl λq2 g2 ds2 x2 n2 gg2=> ?_;have gg2:g2.get h_.next=some (.cells (Flat.enc x.paths[k].name) false):=gg2;have XF:=ds2.x;have nXF:=XF.next;have OR:OwnR h' H.next 1 v (((x.paths.take k).map (·.name)).map Flat.enc):=O.o (1,v,((x.paths.take k).map (·.name)).map Flat.enc) (by simp);have vne:idOf v≠[b]:=λe=>(List.nodup_append.1 O.nd).2.2 b (by simp[idsR,e]) b (by simp) rfl
  refine W.apD (H:=H) (z:=1) (l2:=[Flat.enc x.paths[k].name]) ds2.hri (X.trans XF) (OR.ext XF) (SlG.one (by omega) gg2) rfl rfl rfl rfl rfl rfl rfl rfl rfl rfl rfl rfl rfl (by
   rw[List.length_map,List.length_map,List.length_take];show(_+1)*16<=_;omega) λq3 v' g3 hr3 X3 n3 k3 O3 _ i3=> ?_
  have i3:=i3 (by simp);have O4:=(OwnG.turn (A:=[(1,u1,x.stops.map Flat.enc)]) (show OwnG g2 H.next ([(1,u1,x.stops.map Flat.enc)]++(1,v,((x.paths.take k).map (·.name)).map Flat.enc)::_) [b]from O.ext XF) n3 k3 (l':=((x.paths.take (k+1)).map (·.name)).map Flat.enc) (by rw[List.take_add_one,List.getElem?_eq_getElem c1,List.map_append,List.map_append];exact O3) (.inr ⟨_,i3,Nat.le_refl _⟩)).1;have gb3:=(k3 b (by omega) (.inr vne)).trans ((XF.old b hbx.2).trans gb);obtain⟨pv,nv,cv,xv,ev⟩:=O3.form;have hcells:v'.cells=some [v']:=by rw[ev];rfl
  rw[ev];repeat refine W.gd ?_
  rw[<-ev];refine W.dst (vs:=[v']) (cs':=[u1,v',.slice none 0 0 0,.slice none 0 0 0,.slice none 0 0 0,.slice none 0 0 0]) hr3 rfl rfl rfl rfl hcells rfl rfl gb3 rfl λq4 g4 hr4 s4=> ?_;have gb4:g4.get b=some (.cells [u1,v',.slice none 0 0 0,.slice none 0 0 0,.slice none 0 0 0,.slice none 0 0 0] false):=by rw[s4.get,put_same]
  have kk4:∀k,k≠b->g4.get k=g3.get k:=λk hk=>by rw[s4.get,Heap.get_put,if_neg (Ne.symm hk)]
  have X4:Ext H g4:=(X3.put (by omega) (by omega) _).trans s4.ext;have O5:=(O4.put s4.next kk4).1;repeat refine W.gd ?_
  repeat refine W.g ?_
  exact⟨k+1,lessN c1,X4,rfl,rfl,rfl,rfl,c1,v',O5,gb4⟩
 repeat refine W.g ?_
 obtain⟨u2,hu2⟩:∃u,u=v:=⟨_,rfl⟩;rw[show k=x.paths.length by omega,List.take_length,<-hu2]at O;rw[<-hu2]at gb Lb;clear hu2 v;clear Lb;refine W.k4 1 2 3 5 λT=> ?_
 refine W.loop (σ:=Nat) (λk tm h'=>Ext H h'/\tm.look 1= .ptr (some (h.next,0))/\tm.look 2= .ptr (some (H1.next,0))/\tm.look 3= .ptr (some (b,0))/\tm.look 5= .int .i64 (k:Int)/\k<=x.doors.length/\∃v:CV,OwnG h' H.next [(1,u1,x.stops.map Flat.enc),(1,u2,(x.paths.map (·.name)).map Flat.enc),(1,v,((x.doors.take k).map (·.name)).map Flat.enc),(1,.slice none 0 0 0,[]),(1,.slice none 0 0 0,[]),(1,.slice none 0 0 0,[])] [b]/\h'.get b=some (.cells [u1,u2,v,.slice none 0 0 0,.slice none 0 0 0,.slice none 0 0 0] false)) (λk=>x.doors.length-k) ?_ (s:=0)
  ⟨Ext.x,rfl,rfl,rfl,rfl,Nat.zero_le _,_,O,gb⟩
 clear O gb X;rintro k tm h' ⟨X,w1,w2,w3,w5,hk,v,O,gb⟩;obtain⟨T,rfl⟩:=Tm.t4 w1 w2 w3 w5;clear w1 w2 w3 w5;have nX:=X.next;have hbx:=O.x b (by simp);have Lb:LocE h' b 0 [u1,u2,v,.slice none 0 0 0,.slice none 0 0 0,.slice none 0 0 0]:=⟨_,_,gb,hbx.2,rfl⟩;by_cases c1:k<x.doors.length
 ·repeat refine W.g ?_
  have ds:=DX.start ((XH.trans X).fr fr);repeat (first|refine W.gd ?_|refine W.e λr_ h_ ds_ s_=> ?_)
  refine W.dixF t3 c1 rfl rfl rfl rfl rfl rfl rfl λi1 o1 L1=> ?_;repeat (first|refine W.gd ?_|refine W.e λr_ h_ ds_ s_=> ?_)
  refine W.dnewZ ds_ rfl rfl rfl rfl λq2 g2 ds2 x2 n2 gg2=> ?_;have gg2:g2.get h_.next=some (.cells (Flat.enc x.doors[k].name) false):=gg2;have XF:=ds2.x;have nXF:=XF.next;have OR:OwnR h' H.next 1 v (((x.doors.take k).map (·.name)).map Flat.enc):=O.o (1,v,((x.doors.take k).map (·.name)).map Flat.enc) (by simp);have vne:idOf v≠[b]:=λe=>(List.nodup_append.1 O.nd).2.2 b (by simp[idsR,e]) b (by simp) rfl
  refine W.apD (H:=H) (z:=1) (l2:=[Flat.enc x.doors[k].name]) ds2.hri (X.trans XF) (OR.ext XF) (SlG.one (by omega) gg2) rfl rfl rfl rfl rfl rfl rfl rfl rfl rfl rfl rfl rfl (by
   rw[List.length_map,List.length_map,List.length_take];show(_+1)*16<=_;omega) λq3 v' g3 hr3 X3 n3 k3 O3 _ i3=> ?_
  have i3:=i3 (by simp);have O4:=(OwnG.turn (A:=[(1,u1,x.stops.map Flat.enc),(1,u2,(x.paths.map (·.name)).map Flat.enc)]) (show OwnG g2 H.next ([(1,u1,x.stops.map Flat.enc),(1,u2,(x.paths.map (·.name)).map Flat.enc)]++(1,v,((x.doors.take k).map (·.name)).map Flat.enc)::_) [b]from O.ext XF) n3 k3 (l':=((x.doors.take (k+1)).map (·.name)).map Flat.enc) (by rw[List.take_add_one,List.getElem?_eq_getElem c1,List.map_append,List.map_append];exact O3) (.inr ⟨_,i3,Nat.le_refl _⟩)).1;have gb3:=(k3 b (by omega) (.inr vne)).trans ((XF.old b hbx.2).trans gb);obtain⟨pv,nv,cv,xv,ev⟩:=O3.form;have hcells:v'.cells=some [v']:=by rw[ev];rfl
  rw[ev];repeat refine W.gd ?_
  rw[<-ev];refine W.dst (vs:=[v']) (cs':=[u1,u2,v',.slice none 0 0 0,.slice none 0 0 0,.slice none 0 0 0]) hr3 rfl rfl rfl rfl hcells rfl rfl gb3 rfl λq4 g4 hr4 s4=> ?_;have gb4:g4.get b=some (.cells [u1,u2,v',.slice none 0 0 0,.slice none 0 0 0,.slice none 0 0 0] false):=by rw[s4.get,put_same]
  have kk4:∀k,k≠b->g4.get k=g3.get k:=λk hk=>by rw[s4.get,Heap.get_put,if_neg (Ne.symm hk)]
  have X4:Ext H g4:=(X3.put (by omega) (by omega) _).trans s4.ext;have O5:=(O4.put s4.next kk4).1;repeat refine W.gd ?_
  repeat refine W.g ?_
  exact⟨k+1,lessN c1,X4,rfl,rfl,rfl,rfl,c1,v',O5,gb4⟩
 repeat refine W.g ?_
 obtain⟨u3,hu3⟩:∃u,u=v:=⟨_,rfl⟩;rw[show k=x.doors.length by omega,List.take_length,<-hu3]at O;rw[<-hu3]at gb Lb;clear hu3 v;clear Lb;refine W.k4 1 2 3 6 λT=> ?_
 refine W.loop (σ:=Nat) (λk tm h'=>Ext H h'/\tm.look 1= .ptr (some (h.next,0))/\tm.look 2= .ptr (some (H1.next,0))/\tm.look 3= .ptr (some (b,0))/\tm.look 6= .int .i64 (k:Int)/\k<=x.routes.length/\∃v:CV,OwnG h' H.next [(1,u1,x.stops.map Flat.enc),(1,u2,(x.paths.map (·.name)).map Flat.enc),(1,u3,(x.doors.map (·.name)).map Flat.enc),(1,v,((x.routes.take k).map (·.name)).map Flat.enc),(1,.slice none 0 0 0,[]),(1,.slice none 0 0 0,[])] [b]/\h'.get b=some (.cells [u1,u2,u3,v,.slice none 0 0 0,.slice none 0 0 0] false)) (λk=>x.routes.length-k) ?_ (s:=0)
  ⟨Ext.x,rfl,rfl,rfl,rfl,Nat.zero_le _,_,O,gb⟩
 clear O gb X;rintro k tm h' ⟨X,w1,w2,w3,w6,hk,v,O,gb⟩;obtain⟨T,rfl⟩:=Tm.t4 w1 w2 w3 w6;clear w1 w2 w3 w6;have nX:=X.next;have hbx:=O.x b (by simp);have Lb:LocE h' b 0 [u1,u2,u3,v,.slice none 0 0 0,.slice none 0 0 0]:=⟨_,_,gb,hbx.2,rfl⟩;by_cases c1:k<x.routes.length
 ·repeat refine W.g ?_
  have ds:=DX.start ((XH.trans X).fr fr);repeat (first|refine W.gd ?_|refine W.e λr_ h_ ds_ s_=> ?_)
  refine W.dixR t4 c1 rfl rfl rfl rfl rfl rfl rfl λi1 o1 e1 L1 re=> ?_;obtain⟨z1,z2,z3,rfl,_,_,_⟩:=re;repeat (first|refine W.gd ?_|refine W.e λr_ h_ ds_ s_=> ?_)
  refine W.dnewZ ds_ rfl rfl rfl rfl λq2 g2 ds2 x2 n2 gg2=> ?_;have gg2:g2.get h_.next=some (.cells (Flat.enc x.routes[k].name) false):=gg2;have XF:=ds2.x;have nXF:=XF.next;have OR:OwnR h' H.next 1 v (((x.routes.take k).map (·.name)).map Flat.enc):=O.o (1,v,((x.routes.take k).map (·.name)).map Flat.enc) (by simp);have vne:idOf v≠[b]:=λe=>(List.nodup_append.1 O.nd).2.2 b (by simp[idsR,e]) b (by simp) rfl
  refine W.apD (H:=H) (z:=1) (l2:=[Flat.enc x.routes[k].name]) ds2.hri (X.trans XF) (OR.ext XF) (SlG.one (by omega) gg2) rfl rfl rfl rfl rfl rfl rfl rfl rfl rfl rfl rfl rfl (by
   rw[List.length_map,List.length_map,List.length_take];show(_+1)*16<=_;omega) λq3 v' g3 hr3 X3 n3 k3 O3 _ i3=> ?_
  have i3:=i3 (by simp);have O4:=(OwnG.turn (A:=[(1,u1,x.stops.map Flat.enc),(1,u2,(x.paths.map (·.name)).map Flat.enc),(1,u3,(x.doors.map (·.name)).map Flat.enc)]) (show OwnG g2 H.next ([(1,u1,x.stops.map Flat.enc),(1,u2,(x.paths.map (·.name)).map Flat.enc),(1,u3,(x.doors.map (·.name)).map Flat.enc)]++(1,v,((x.routes.take k).map (·.name)).map Flat.enc)::_) [b]from O.ext XF) n3 k3 (l':=((x.routes.take (k+1)).map (·.name)).map Flat.enc) (by rw[List.take_add_one,List.getElem?_eq_getElem c1,List.map_append,List.map_append];exact O3) (.inr ⟨_,i3,Nat.le_refl _⟩)).1;have gb3:=(k3 b (by omega) (.inr vne)).trans ((XF.old b hbx.2).trans gb);obtain⟨pv,nv,cv,xv,ev⟩:=O3.form;have hcells:v'.cells=some [v']:=by rw[ev];rfl
  rw[ev];repeat refine W.gd ?_
  rw[<-ev];refine W.dst (vs:=[v']) (cs':=[u1,u2,u3,v',.slice none 0 0 0,.slice none 0 0 0]) hr3 rfl rfl rfl rfl hcells rfl rfl gb3 rfl λq4 g4 hr4 s4=> ?_;have gb4:g4.get b=some (.cells [u1,u2,u3,v',.slice none 0 0 0,.slice none 0 0 0] false):=by rw[s4.get,put_same]
  have kk4:∀k,k≠b->g4.get k=g3.get k:=λk hk=>by rw[s4.get,Heap.get_put,if_neg (Ne.symm hk)]
  have X4:Ext H g4:=(X3.put (by omega) (by omega) _).trans s4.ext;have O5:=(O4.put s4.next kk4).1;repeat refine W.gd ?_
  repeat refine W.g ?_
  exact⟨k+1,lessN c1,X4,rfl,rfl,rfl,rfl,c1,v',O5,gb4⟩
 repeat refine W.g ?_
 obtain⟨u4,hu4⟩:∃u,u=v:=⟨_,rfl⟩;rw[show k=x.routes.length by omega,List.take_length,<-hu4]at O;rw[<-hu4]at gb Lb;clear hu4 v;clear Lb;refine W.k4 1 2 3 7 λT=> ?_
 refine W.loop (σ:=Nat) (λk tm h'=>Ext H h'/\tm.look 1= .ptr (some (h.next,0))/\tm.look 2= .ptr (some (H1.next,0))/\tm.look 3= .ptr (some (b,0))/\tm.look 7= .int .i64 (k:Int)/\k<=x.trips.length/\∃v:CV,OwnG h' H.next [(1,u1,x.stops.map Flat.enc),(1,u2,(x.paths.map (·.name)).map Flat.enc),(1,u3,(x.doors.map (·.name)).map Flat.enc),(1,u4,(x.routes.map (·.name)).map Flat.enc),(1,v,((x.trips.take k).map (·.name)).map Flat.enc),(1,.slice none 0 0 0,[])] [b]/\h'.get b=some (.cells [u1,u2,u3,u4,v,.slice none 0 0 0] false)) (λk=>x.trips.length-k) ?_ (s:=0)
  ⟨Ext.x,rfl,rfl,rfl,rfl,Nat.zero_le _,_,O,gb⟩
 clear O gb X;rintro k tm h' ⟨X,w1,w2,w3,w7,hk,v,O,gb⟩;obtain⟨T,rfl⟩:=Tm.t4 w1 w2 w3 w7;clear w1 w2 w3 w7;have nX:=X.next;have hbx:=O.x b (by simp);have Lb:LocE h' b 0 [u1,u2,u3,u4,v,.slice none 0 0 0]:=⟨_,_,gb,hbx.2,rfl⟩;by_cases c1:k<x.trips.length
 ·repeat refine W.g ?_
  have ds:=DX.start ((XH.trans X).fr fr);repeat (first|refine W.gd ?_|refine W.e λr_ h_ ds_ s_=> ?_)
  refine W.dixF t5 c1 rfl rfl rfl rfl rfl rfl rfl λi1 o1 L1=> ?_;repeat (first|refine W.gd ?_|refine W.e λr_ h_ ds_ s_=> ?_)
  refine W.dnewZ ds_ rfl rfl rfl rfl λq2 g2 ds2 x2 n2 gg2=> ?_;have gg2:g2.get h_.next=some (.cells (Flat.enc x.trips[k].name) false):=gg2;have XF:=ds2.x;have nXF:=XF.next;have OR:OwnR h' H.next 1 v (((x.trips.take k).map (·.name)).map Flat.enc):=O.o (1,v,((x.trips.take k).map (·.name)).map Flat.enc) (by simp);have vne:idOf v≠[b]:=λe=>(List.nodup_append.1 O.nd).2.2 b (by simp[idsR,e]) b (by simp) rfl
  refine W.apD (H:=H) (z:=1) (l2:=[Flat.enc x.trips[k].name]) ds2.hri (X.trans XF) (OR.ext XF) (SlG.one (by omega) gg2) rfl rfl rfl rfl rfl rfl rfl rfl rfl rfl rfl rfl rfl (by
   rw[List.length_map,List.length_map,List.length_take];show(_+1)*16<=_;omega) λq3 v' g3 hr3 X3 n3 k3 O3 _ i3=> ?_
  have i3:=i3 (by simp);have O4:=(OwnG.turn (A:=[(1,u1,x.stops.map Flat.enc),(1,u2,(x.paths.map (·.name)).map Flat.enc),(1,u3,(x.doors.map (·.name)).map Flat.enc),(1,u4,(x.routes.map (·.name)).map Flat.enc)]) (show OwnG g2 H.next ([(1,u1,x.stops.map Flat.enc),(1,u2,(x.paths.map (·.name)).map Flat.enc),(1,u3,(x.doors.map (·.name)).map Flat.enc),(1,u4,(x.routes.map (·.name)).map Flat.enc)]++(1,v,((x.trips.take k).map (·.name)).map Flat.enc)::_) [b]from O.ext XF) n3 k3 (l':=((x.trips.take (k+1)).map (·.name)).map Flat.enc) (by rw[List.take_add_one,List.getElem?_eq_getElem c1,List.map_append,List.map_append];exact O3) (.inr ⟨_,i3,Nat.le_refl _⟩)).1;have gb3:=(k3 b (by omega) (.inr vne)).trans ((XF.old b hbx.2).trans gb);obtain⟨pv,nv,cv,xv,ev⟩:=O3.form;have hcells:v'.cells=some [v']:=by rw[ev];rfl
  rw[ev];repeat refine W.gd ?_
  rw[<-ev];refine W.dst (vs:=[v']) (cs':=[u1,u2,u3,u4,v',.slice none 0 0 0]) hr3 rfl rfl rfl rfl hcells rfl rfl gb3 rfl λq4 g4 hr4 s4=> ?_;have gb4:g4.get b=some (.cells [u1,u2,u3,u4,v',.slice none 0 0 0] false):=by rw[s4.get,put_same]
  have kk4:∀k,k≠b->g4.get k=g3.get k:=λk hk=>by rw[s4.get,Heap.get_put,if_neg (Ne.symm hk)]
  have X4:Ext H g4:=(X3.put (by omega) (by omega) _).trans s4.ext;have O5:=(O4.put s4.next kk4).1;repeat refine W.gd ?_
  repeat refine W.g ?_
  exact⟨k+1,lessN c1,X4,rfl,rfl,rfl,rfl,c1,v',O5,gb4⟩
 repeat refine W.g ?_
 obtain⟨u5,hu5⟩:∃u,u=v:=⟨_,rfl⟩;rw[show k=x.trips.length by omega,List.take_length,<-hu5]at O;rw[<-hu5]at gb Lb;clear hu5 v;clear Lb;refine W.k4 1 2 3 8 λT=> ?_
 refine W.loop (σ:=Nat) (λk tm h'=>Ext H h'/\tm.look 1= .ptr (some (h.next,0))/\tm.look 2= .ptr (some (H1.next,0))/\tm.look 3= .ptr (some (b,0))/\tm.look 8= .int .i64 (k:Int)/\k<=x.hazards.length/\∃v:CV,OwnG h' H.next [(1,u1,x.stops.map Flat.enc),(1,u2,(x.paths.map (·.name)).map Flat.enc),(1,u3,(x.doors.map (·.name)).map Flat.enc),(1,u4,(x.routes.map (·.name)).map Flat.enc),(1,u5,(x.trips.map (·.name)).map Flat.enc),(1,v,((x.hazards.take k).map (·.name)).map Flat.enc)] [b]/\h'.get b=some (.cells [u1,u2,u3,u4,u5,v] false)) (λk=>x.hazards.length-k) ?_ (s:=0)
  ⟨Ext.x,rfl,rfl,rfl,rfl,Nat.zero_le _,_,O,gb⟩
 clear O gb X;rintro k tm h' ⟨X,w1,w2,w3,w8,hk,v,O,gb⟩;obtain⟨T,rfl⟩:=Tm.t4 w1 w2 w3 w8;clear w1 w2 w3 w8;have nX:=X.next;have hbx:=O.x b (by simp);have Lb:LocE h' b 0 [u1,u2,u3,u4,u5,v]:=⟨_,_,gb,hbx.2,rfl⟩;by_cases c1:k<x.hazards.length
 ·repeat refine W.g ?_
  have ds:=DX.start ((XH.trans X).fr fr);repeat (first|refine W.gd ?_|refine W.e λr_ h_ ds_ s_=> ?_)
  refine W.dixF t6 c1 rfl rfl rfl rfl rfl rfl rfl λi1 o1 L1=> ?_;repeat (first|refine W.gd ?_|refine W.e λr_ h_ ds_ s_=> ?_)
  refine W.dnewZ ds_ rfl rfl rfl rfl λq2 g2 ds2 x2 n2 gg2=> ?_;have gg2:g2.get h_.next=some (.cells (Flat.enc x.hazards[k].name) false):=gg2;have XF:=ds2.x;have nXF:=XF.next;have OR:OwnR h' H.next 1 v (((x.hazards.take k).map (·.name)).map Flat.enc):=O.o (1,v,((x.hazards.take k).map (·.name)).map Flat.enc) (by simp);have vne:idOf v≠[b]:=λe=>(List.nodup_append.1 O.nd).2.2 b (by simp[idsR,e]) b (by simp) rfl
  refine W.apD (H:=H) (z:=1) (l2:=[Flat.enc x.hazards[k].name]) ds2.hri (X.trans XF) (OR.ext XF) (SlG.one (by omega) gg2) rfl rfl rfl rfl rfl rfl rfl rfl rfl rfl rfl rfl rfl (by
   rw[List.length_map,List.length_map,List.length_take];show(_+1)*16<=_;omega) λq3 v' g3 hr3 X3 n3 k3 O3 _ i3=> ?_
  have i3:=i3 (by simp);have O4:=(OwnG.turn (A:=[(1,u1,x.stops.map Flat.enc),(1,u2,(x.paths.map (·.name)).map Flat.enc),(1,u3,(x.doors.map (·.name)).map Flat.enc),(1,u4,(x.routes.map (·.name)).map Flat.enc),(1,u5,(x.trips.map (·.name)).map Flat.enc)]) (show OwnG g2 H.next ([(1,u1,x.stops.map Flat.enc),(1,u2,(x.paths.map (·.name)).map Flat.enc),(1,u3,(x.doors.map (·.name)).map Flat.enc),(1,u4,(x.routes.map (·.name)).map Flat.enc),(1,u5,(x.trips.map (·.name)).map Flat.enc)]++(1,v,((x.hazards.take k).map (·.name)).map Flat.enc)::_) [b]from O.ext XF) n3 k3 (l':=((x.hazards.take (k+1)).map (·.name)).map Flat.enc) (by rw[List.take_add_one,List.getElem?_eq_getElem c1,List.map_append,List.map_append];exact O3) (.inr ⟨_,i3,Nat.le_refl _⟩)).1;have gb3:=(k3 b (by omega) (.inr vne)).trans ((XF.old b hbx.2).trans gb);obtain⟨pv,nv,cv,xv,ev⟩:=O3.form;have hcells:v'.cells=some [v']:=by rw[ev];rfl
  rw[ev];repeat refine W.gd ?_
  rw[<-ev];refine W.dst (vs:=[v']) (cs':=[u1,u2,u3,u4,u5,v']) hr3 rfl rfl rfl rfl hcells rfl rfl gb3 rfl λq4 g4 hr4 s4=> ?_;have gb4:g4.get b=some (.cells [u1,u2,u3,u4,u5,v'] false):=by rw[s4.get,put_same]
  have kk4:∀k,k≠b->g4.get k=g3.get k:=λk hk=>by rw[s4.get,Heap.get_put,if_neg (Ne.symm hk)]
  have X4:Ext H g4:=(X3.put (by omega) (by omega) _).trans s4.ext;have O5:=(O4.put s4.next kk4).1;repeat refine W.gd ?_
  repeat refine W.g ?_
  exact⟨k+1,lessN c1,X4,rfl,rfl,rfl,rfl,c1,v',O5,gb4⟩
 repeat refine W.g ?_
 rw[show k=x.hazards.length by omega,List.take_length]at O;refine W.stn (vs:=[u1,u2,u3,u4,u5,v]) (cs':=[u1,u2,u3,u4,u5,v]) rfl rfl rfl rfl rfl rfl ((X.old _ (by omega)).trans gR) rfl λM nM gM kM=> ?_;repeat refine W.g ?_
 refine BodyQ.cell1 rfl rfl gM rfl rfl ?_;have XM:Ext h M:=Ext.store (XH.trans X) nM kM (by omega) (by omega);have OM:OwnG M H.next _ [b]:=O.keep (by omega) λk hk=>kM k (λe=>by have:=(O.lt k hk).1;omega);exact q M _ _ _ _ _ _ XM ((show OwnG M H.next _ []from⟨OM.o,(List.nodup_append.1 OM.nd).1 |> λh=>by rw[List.append_nil];exact h,λk hk=>by cases hk⟩).low (by omega))
end
end Go.Proofs.YtfheibkikpefkaaGreatDoor

noncomputable section
namespace Go.CM.Tt
section
variable {h h' g:Heap} {lo b:Nat} {w:WorldD} {hz m1 m2 m3 m4 m5 m6 p d vr t z u:CV}
def namesR (n:NamesD) (m1 m2 m3 m4 m5 m6:CV):List RowE:=[(1,m1,n.stops.map Flat.enc),(1,m2,n.paths.map Flat.enc),(1,m3,n.doors.map Flat.enc),(1,m4,n.routes.map Flat.enc),(1,m5,n.trips.map Flat.enc),(1,m6,n.hazards.map Flat.enc)]
theorem OwnWB.start {n:NamesD} {a:Int} (o:OwnG h lo (namesR n m1 m2 m3 m4 m5 m6) []) (hb:lo<=b) (hl:b<h.next) (ne:∀k∈idsR (namesR n m1 m2 m3 m4 m5 m6),k≠b):OwnWB h lo b (.int .i64 a) m1 m2 m3 m4 m5 m6 (.slice none 0 0 0) (.slice none 0 0 0) (.slice none 0 0 0) (.slice none 0 0 0) (.slice none 0 0 0) ⟨a,n,[],[],[],[],[]⟩:=by
 refine⟨rfl,[],⟨OwnR.nil,rfl,λj e d he _=>by simp at he⟩,⟨λr hr=> ?_,?_,λk hk=> ?_⟩⟩
 ·have hr:r∈[(3,.slice none 0 0 0,[]),(6,.slice none 0 0 0,[]),(4,.slice none 0 0 0,[]),(5,.slice none 0 0 0,[])]++(namesR n m1 m2 m3 m4 m5 m6++[((3,.slice none 0 0 0,[]):RowE)]):=hr
  rcases List.mem_append.1 hr with hr|hr
  ·simp only[List.mem_cons,List.not_mem_nil,or_false]at hr
   rcases hr with rfl|rfl|rfl|rfl
   all_goals exact OwnR.nil
  ·rcases List.mem_append.1 hr with hr|hr
   ·exact o.o r hr
   ·rw[List.mem_singleton.1 hr];exact OwnR.nil
 ·have e:idsR (flatW ⟨a,n,[],[],[],[],[]⟩ (.slice none 0 0 0) (.slice none 0 0 0) (.slice none 0 0 0) (.slice none 0 0 0) m1 m2 m3 m4 m5 m6++[(3,.slice none 0 0 0,[])])++b::idsIn []=idsR (namesR n m1 m2 m3 m4 m5 m6)++[b]:=by
    simp[idsR,flatW,namesR,idOf,idsIn]
  rw[e];have nd:=o.nd;rw[List.append_nil]at nd;refine List.nodup_append.2 ⟨nd,by simp,λc hc d hd e2=> ?_⟩;rw[List.mem_singleton]at hd;exact ne c hc (e2.trans hd)
 ·have:k=b:=by simpa[idsIn]using hk
  rw[this];exact⟨hb,hl⟩
theorem OwnWB.route {css:List (List CV)} {e:List CV} {dd:RouteW} {lo2:Nat} (e0:hz= .int .i64 w.hz) (r1:OwnRws g lo vr css w.routes) (r2:OwnG g lo (flatW w p d t z m1 m2 m3 m4 m5 m6++[(3,vr,css)]) (b::idsIn css))
  (oe:OwnRW g lo2 e dd) (hlo:lo<=lo2) (hlt:∀k∈idsR (flatW w p d t z m1 m2 m3 m4 m5 m6++[(3,vr,css)])++b::idsIn css,k<lo2) (nd:(idsOf e).Nodup)
  (hn:g.next<=h'.next) (hk:∀k,k<g.next->k<lo\/idOf vr≠[k]->h'.get k=g.get k) (om:OwnR h' lo 3 u (css++[e])) {j:Nat} (hi:idOf u=[j]) (hj:g.next<=j):OwnWB h' lo b hz m1 m2 m3 m4 m5 m6 p d u t z {w with routes:=w.routes++[dd]}:=by
 have eid:∀(v:CV) (c:List (List CV)),idsR (flatW w p d t z m1 m2 m3 m4 m5 m6++[(3,v,c)])=idsR (flatW w p d t z m1 m2 m3 m4 m5 m6)++idOf v:=λv c=>by simp[idsR]
 have nd0:=r2.nd;rw[eid,List.append_assoc]at nd0;rw[eid,List.append_assoc]at hlt;have nA:=List.nodup_append.1 nd0;have nV:=List.nodup_append.1 nA.2.1;have oid:=oe.ids
 have nev:∀k,k∈idsR (flatW w p d t z m1 m2 m3 m4 m5 m6)\/k∈b::idsIn css->idOf vr≠[k]:=λk hk e1=>by
  rcases hk with hk|hk
  ·exact nA.2.2 k hk k (by rw[e1];simp) rfl
  ·exact nV.2.2 k (by rw[e1];simp) k hk rfl
 have glt:∀k,k∈idsR (flatW w p d t z m1 m2 m3 m4 m5 m6)\/k∈b::idsIn css->k<g.next:=λk hk=>by
  have:=r2.lt k (by
   rw[eid,List.append_assoc];rcases hk with hk|hk
   ·exact List.mem_append_left _ hk
   ·exact List.mem_append_right _ (List.mem_append_right _ hk))
  exact this.2
 have kp:∀k,k∈idsR (flatW w p d t z m1 m2 m3 m4 m5 m6)\/k∈b::idsIn css->h'.get k=g.get k:=λk hk2=>hk k (glt k hk2) (.inr (nev k hk2))
 have ke:∀k∈idsOf e,h'.get k=g.get k:=λk hk2=>hk k (oid k hk2).2 (.inr λe1=>by
  have h1:=(oid k hk2).1;have h2:=hlt k (List.mem_append_right _ (List.mem_append_left _ (by rw[e1];simp)));omega)
 refine⟨e0,css++[e],⟨om,by rw[List.length_append,List.length_append,r1.2.1];rfl,λi e' d' he hd=> ?_⟩,⟨λr hr=> ?_,?_,λk hk2=> ?_⟩⟩
 ·by_cases c:i<css.length
  ·rw[List.getElem?_append_left c]at he
   rw[List.getElem?_append_left (by rw[<-r1.2.1];exact c)]at hd;exact(r1.2.2 i e' d' he hd).other hn λk hk2=>kp k (.inr (List.mem_cons_of_mem _ (List.mem_flatMap.2 ⟨e',List.mem_of_getElem? he,hk2⟩)))
  ·have hi2:i=css.length:=by
     have:=(List.getElem?_eq_some_iff.1 he).1;rw[List.length_append,List.length_singleton]at this;omega
   subst hi2;rw[List.getElem?_append_right (Nat.le_refl _),Nat.sub_self]at he;have he:e=e':=by simpa using he
   have hd:dd=d':=by
    rw[r1.2.1,List.getElem?_append_right (Nat.le_refl _),Nat.sub_self]at hd;simpa using hd
   subst he hd;exact(oe.low hlo).other hn ke
 ·have hr:r∈flatW w p d t z m1 m2 m3 m4 m5 m6++[(3,u,css++[e])]:=hr
  rcases List.mem_append.1 hr with hr|hr
  ·exact(r2.o r (List.mem_append_left _ hr)).other hn λk _ _ hid=>kp k (.inl (List.mem_flatMap.2 ⟨r,hr,by rw[hid];simp⟩))
  ·rw[List.mem_singleton.1 hr];exact om
 ·have e9:idsR (flatW {w with routes:=w.routes++[dd]} p d t z m1 m2 m3 m4 m5 m6++[(3,u,css++[e])])++b::idsIn (css++[e])=idsR (flatW w p d t z m1 m2 m3 m4 m5 m6)++(idOf u++(b::idsIn css++idsOf e)):=by
    rw[show flatW {w with routes:=w.routes++[dd]} p d t z m1 m2 m3 m4 m5 m6=flatW w p d t z m1 m2 m3 m4 m5 m6 from rfl,eid]
    simp[idsIn,idsOf]
  rw[e9,hi];have inner:(b::idsIn css++idsOf e).Nodup:=nodup_behind (n:=lo2) nV.2.1 (λa ha=>hlt a (List.mem_append_right _ (List.mem_append_right _ ha))) nd (λa ha=>(oid a ha).1)
  have ilt:∀a∈b::idsIn css++idsOf e,a<g.next:=λa ha=>by
   rcases List.mem_append.1 ha with ha|ha
   ·exact glt a (.inr ha)
   ·exact(oid a ha).2
  refine List.nodup_append.2 ⟨nA.1,List.nodup_append.2 ⟨by simp,inner,λa ha c hc e1=> ?_⟩,λa ha c hc e1=> ?_⟩
  ·rw[List.mem_singleton.1 ha]at e1
   have:=ilt c hc;omega
  ·have h1:=glt a (.inl ha)
   rcases List.mem_append.1 hc with hc|hc
   ·rw[List.mem_singleton.1 hc]at e1;omega
   ·rcases List.mem_append.1 hc with hc|hc
    ·exact nA.2.2 a ha c (List.mem_append_right _ hc) e1
    ·have h2:=(oid c hc).1
     have h3:=hlt a (List.mem_append_left _ ha);omega
 ·rcases List.mem_cons.1 hk2 with rfl|hk2
  ·have:=r2.x k (by simp)
   exact⟨this.1,by omega⟩
  ·unfold idsIn at hk2
   rw[List.flatMap_append,List.mem_append]at hk2;rcases hk2 with hk2|hk2
   ·have:=r2.x k (List.mem_cons_of_mem _ hk2)
    exact⟨this.1,by omega⟩
   ·have:=oid k (by simpa using hk2)
    exact⟨by omega,by omega⟩
end
end Go.CM.Tt
