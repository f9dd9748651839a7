/- The document's answer: a sheet's names. No condition but that memory beyond the next number is empty. -/
import Derived.Test.YtfheibkikpefkaaGreatDoorXU
import Derived.Test.YtfheibkikpefkaaGreatDoorYO
import Derived.Test.YtfheibkikpefkaaGreatDoorXZ
import Derived.Test.YtfheibkikpefkaaGreatDoorZB
set_option linter.unusedVariables false
set_option linter.unusedSimpArgs false
namespace Go.Proofs.YtfheibkikpefkaaGreatDoor
open Go Go.CM Go.CM.Tt
noncomputable section
set_option maxHeartbeats 16000000
theorem aKo {h:Heap} {tm:Tm} {Q:R->Prop} {cs:List CV} {x:SheetD} (r:Rp.R h cs x) (fr:Fresh h) (few:x.few)
  (q:∀h' u1 u2 u3 u4 u5 u6,Ext h h'->OwnG h' h.next [(1,u1,x.stops.map Flat.enc),(1,u2,(x.paths.map (·.name)).map Flat.enc),(1,u3,(x.doors.map (·.name)).map Flat.enc),(1,u4,(x.routes.map (·.name)).map Flat.enc),(1,u5,(x.trips.map (·.name)).map Flat.enc),(1,u6,(x.hazards.map (·.name)).map Flat.enc)] []->Q (.val (.agg [u1,u2,u3,u4,u5,u6]) h')):W E1 (.call (.fn 134 [] []) [.agg cs]) tm h Q:=by
 obtain⟨v1,v2,v3,v4,v5,v6,rfl,s1,s2,s3,s4,s5,s6⟩:=r;obtain⟨f1,f2,f3,f4,f5,f6⟩:=few;refine W.fn (s:=aB Tryz.f134) rfl rfl rfl rfl ?_;repeat (refine W.seq ?_)
 refine W.region ?_;refine W.box rfl rfl rfl λH1 XH1 nH1 gH1 LH1=> ?_;repeat (first|refine W.g ?_|refine W.m λh_ X_ n_ g_ L_=> ?_|refine W.n λh_ X_ n_ g_ S_=> ?_)
 rename_i H XA nA gA;have LA:=L_;have S2:=S_;obtain⟨h2,hh2⟩:∃h2,h2=h_:=⟨_,rfl⟩;rw[<-hh2]at X_ n_ g_ S_ S2 ⊢;have X2:=X_;have n2:=n_;have g2:=g_;clear X_ n_ g_ S_ L_ hh2;have XH:Ext h H:=XH1.trans XA;have LH:=LH1.ext XA;have gR:H.get H1.next=some (.cells [.slice none 0 0 0,.slice none 0 0 0,.slice none 0 0 0,.slice none 0 0 0,.slice none 0 0 0,.slice none 0 0 0] false):=gA;have sg:=(aU Flat.iff s1).ext (XH.trans X2);refine dK X2 (z:=1) (l:=[]) (l2:=x.stops.map Flat.enc) (.inr ⟨H.next,0,false,rfl,Nat.le_refl _,by omega,g2,λe he=>(by cases he),.inl ⟨rfl,.inl rfl⟩⟩) sg rfl rfl rfl rfl rfl rfl rfl rfl rfl rfl rfl rfl (by rw[List.length_map];show(0+_)*16<=_;omega) λu1 h3 X3 O1=> ?_;rw[List.nil_append]at O1;obtain⟨pv,nv,cv,xv,e⟩:=O1.form;subst e;repeat (first|refine W.g ?_|refine W.m λh_ X_ n_ g_ L_=> ?_)
 obtain⟨u1,hu1⟩:∃u1,u1=CV.slice pv nv cv xv:=⟨_,rfl⟩;rw[<-hu1]at O1 g_ L_ ⊢;have hc1:u1.cells=some [u1]:=by rw[hu1];rfl
 obtain⟨b,hb⟩:∃b,b=h3.next:=⟨_,rfl⟩;rw[<-hb]at g_ L_ ⊢;have nX3:=X3.next;have t2:=s2.ext XH;have t3:=s3.ext XH;have t4:=s4.ext XH;have t5:=s5.ext XH;have t6:=s6.ext XH;have X:=X3.trans X_;have gb:h_.get b=some (.cells [u1,.slice none 0 0 0,.slice none 0 0 0,.slice none 0 0 0,.slice none 0 0 0,.slice none 0 0 0] false):=g_
 have O:OwnG h_ H.next [(1,u1,x.stops.map Flat.enc),(1,.slice none 0 0 0,[]),(1,.slice none 0 0 0,[]),(1,.slice none 0 0 0,[]),(1,.slice none 0 0 0,[]),(1,.slice none 0 0 0,[])] [b]:=by
  have i1:=OwnR.ids O1;refine OwnG.box (h:=h3) ⟨λr hr=> ?_,?_,λk hk=>by cases hk⟩ X_ nX3 (by omega) (by omega)
  ·simp only[List.mem_cons,List.not_mem_nil,or_false]at hr
   rcases hr with rfl|rfl|rfl|rfl|rfl|rfl
   ·exact O1
   all_goals exact OwnR.nil
  ·rw[show idsR [(1,u1,x.stops.map Flat.enc),(1,.slice none 0 0 0,[]),(1,.slice none 0 0 0,[]),(1,.slice none 0 0 0,[]),(1,.slice none 0 0 0,[]),(1,.slice none 0 0 0,[])]++[]=idOf u1 by simp[idsR,idOf]]
   exact bH _
 clear s1 s2 s3 s4 s5 s6 sg X3 X2 S2 g2 O1 L_ g_ X_ LA gA LH1 gH1;refine dB 1 2 3 4 λT=> ?_
 refine W.loop (σ:=Nat) (λk tm h'=>Ext H h'/\tm.look 1= .ptr (some (h.next,0))/\tm.look 2= .ptr (some (H1.next,0))/\tm.look 3= .ptr (some (b,0))/\tm.look 4= .int .i64 (k:Int)/\k<=x.paths.length/\∃v:CV,OwnG h' H.next [(1,u1,x.stops.map Flat.enc),(1,v,((x.paths.take k).map (·.name)).map Flat.enc),(1,.slice none 0 0 0,[]),(1,.slice none 0 0 0,[]),(1,.slice none 0 0 0,[]),(1,.slice none 0 0 0,[])] [b]/\h'.get b=some (.cells [u1,v,.slice none 0 0 0,.slice none 0 0 0,.slice none 0 0 0,.slice none 0 0 0] false)) (λk=>x.paths.length-k) ?_ (s:=0)
  ⟨Ext.x,rfl,rfl,rfl,rfl,Nat.zero_le _,_,O,gb⟩
 clear O gb X;rintro k tm h' ⟨X,w1,w2,w3,w4,hk,v,O,gb⟩;obtain⟨T,rfl⟩:=cE w1 w2 w3 w4;clear w1 w2 w3 w4;have nX:=X.next;have hbx:=O.x b (by simp);have Lb:LocE h' b 0 [u1,v,.slice none 0 0 0,.slice none 0 0 0,.slice none 0 0 0,.slice none 0 0 0]:=⟨_,_,gb,hbx.2,rfl⟩;by_cases c1:k<x.paths.length
 ·repeat refine W.g ?_
  have ds:=aD ((XH.trans X).fr fr);repeat (first|refine aC ?_|refine W.e λr_ h_ ds_ s_=> ?_)
  refine aE t2 c1 rfl rfl rfl rfl rfl rfl rfl λi1 o1 L1=> ?_;repeat (first|refine aC ?_|refine W.e λr_ h_ ds_ s_=> ?_)
  refine bB ds_ rfl rfl rfl rfl λq2 g2 ds2 x2 n2 gg2=> ?_;have gg2:g2.get h_.next=some (.cells (Flat.enc x.paths[k].name) false):=gg2;have XF:=ds2.x;have nXF:=XF.next;have OR:OwnR h' H.next 1 v (((x.paths.take k).map (·.name)).map Flat.enc):=O.o (1,v,((x.paths.take k).map (·.name)).map Flat.enc) (by simp);have vne:idOf v≠[b]:=λe=>(List.nodup_append.1 O.nd).2.2 b (by simp[idsR,e]) b (by simp) rfl
  refine dC (H:=H) (z:=1) (l2:=[Flat.enc x.paths[k].name]) ds2.hri (X.trans XF) (OR.ext XF) (SlG.one (by omega) gg2) rfl rfl rfl rfl rfl rfl rfl rfl rfl rfl rfl rfl rfl (by
   rw[List.length_map,List.length_map,List.length_take];show(_+1)*16<=_;omega) λq3 v' g3 hr3 X3 n3 k3 O3 _ i3=> ?_
  have i3:=i3 (by simp);have O4:=(OwnG.turn (A:=[(1,u1,x.stops.map Flat.enc)]) (show OwnG g2 H.next ([(1,u1,x.stops.map Flat.enc)]++(1,v,((x.paths.take k).map (·.name)).map Flat.enc)::_) [b]from O.ext XF) n3 k3 (l':=((x.paths.take (k+1)).map (·.name)).map Flat.enc) (by rw[List.take_add_one,List.getElem?_eq_getElem c1,List.map_append,List.map_append];exact O3) (.inr ⟨_,i3,Nat.le_refl _⟩)).1;have gb3:=(k3 b (by omega) (.inr vne)).trans ((XF.old b hbx.2).trans gb);obtain⟨pv,nv,cv,xv,ev⟩:=O3.form;have hcells:v'.cells=some [v']:=by rw[ev];rfl
  rw[ev];repeat refine aC ?_
  rw[<-ev];refine W.dst (vs:=[v']) (cs':=[u1,v',.slice none 0 0 0,.slice none 0 0 0,.slice none 0 0 0,.slice none 0 0 0]) hr3 rfl rfl rfl rfl hcells rfl rfl gb3 rfl λq4 g4 hr4 s4=> ?_;have gb4:g4.get b=some (.cells [u1,v',.slice none 0 0 0,.slice none 0 0 0,.slice none 0 0 0,.slice none 0 0 0] false):=by rw[s4.get,aG]
  have kk4:∀k,k≠b->g4.get k=g3.get k:=λk hk=>by rw[s4.get,aA,if_neg (Ne.symm hk)]
  have X4:Ext H g4:=(X3.put (by omega) (by omega) _).trans s4.ext;have O5:=(O4.put s4.next kk4).1;repeat refine aC ?_
  repeat refine W.g ?_
  exact⟨k+1,aI c1,X4,rfl,rfl,rfl,rfl,c1,v',O5,gb4⟩
 repeat refine W.g ?_
 obtain⟨u2,hu2⟩:∃u,u=v:=⟨_,rfl⟩;rw[show k=x.paths.length by omega,List.take_length,<-hu2]at O;rw[<-hu2]at gb Lb;clear hu2 v;clear Lb;refine dB 1 2 3 5 λT=> ?_
 refine W.loop (σ:=Nat) (λk tm h'=>Ext H h'/\tm.look 1= .ptr (some (h.next,0))/\tm.look 2= .ptr (some (H1.next,0))/\tm.look 3= .ptr (some (b,0))/\tm.look 5= .int .i64 (k:Int)/\k<=x.doors.length/\∃v:CV,OwnG h' H.next [(1,u1,x.stops.map Flat.enc),(1,u2,(x.paths.map (·.name)).map Flat.enc),(1,v,((x.doors.take k).map (·.name)).map Flat.enc),(1,.slice none 0 0 0,[]),(1,.slice none 0 0 0,[]),(1,.slice none 0 0 0,[])] [b]/\h'.get b=some (.cells [u1,u2,v,.slice none 0 0 0,.slice none 0 0 0,.slice none 0 0 0] false)) (λk=>x.doors.length-k) ?_ (s:=0)
  ⟨Ext.x,rfl,rfl,rfl,rfl,Nat.zero_le _,_,O,gb⟩
 clear O gb X;rintro k tm h' ⟨X,w1,w2,w3,w5,hk,v,O,gb⟩;obtain⟨T,rfl⟩:=cE w1 w2 w3 w5;clear w1 w2 w3 w5;have nX:=X.next;have hbx:=O.x b (by simp);have Lb:LocE h' b 0 [u1,u2,v,.slice none 0 0 0,.slice none 0 0 0,.slice none 0 0 0]:=⟨_,_,gb,hbx.2,rfl⟩;by_cases c1:k<x.doors.length
 ·repeat refine W.g ?_
  have ds:=aD ((XH.trans X).fr fr);repeat (first|refine aC ?_|refine W.e λr_ h_ ds_ s_=> ?_)
  refine aE t3 c1 rfl rfl rfl rfl rfl rfl rfl λi1 o1 L1=> ?_;repeat (first|refine aC ?_|refine W.e λr_ h_ ds_ s_=> ?_)
  refine bB ds_ rfl rfl rfl rfl λq2 g2 ds2 x2 n2 gg2=> ?_;have gg2:g2.get h_.next=some (.cells (Flat.enc x.doors[k].name) false):=gg2;have XF:=ds2.x;have nXF:=XF.next;have OR:OwnR h' H.next 1 v (((x.doors.take k).map (·.name)).map Flat.enc):=O.o (1,v,((x.doors.take k).map (·.name)).map Flat.enc) (by simp);have vne:idOf v≠[b]:=λe=>(List.nodup_append.1 O.nd).2.2 b (by simp[idsR,e]) b (by simp) rfl
  refine dC (H:=H) (z:=1) (l2:=[Flat.enc x.doors[k].name]) ds2.hri (X.trans XF) (OR.ext XF) (SlG.one (by omega) gg2) rfl rfl rfl rfl rfl rfl rfl rfl rfl rfl rfl rfl rfl (by
   rw[List.length_map,List.length_map,List.length_take];show(_+1)*16<=_;omega) λq3 v' g3 hr3 X3 n3 k3 O3 _ i3=> ?_
  have i3:=i3 (by simp);have O4:=(OwnG.turn (A:=[(1,u1,x.stops.map Flat.enc),(1,u2,(x.paths.map (·.name)).map Flat.enc)]) (show OwnG g2 H.next ([(1,u1,x.stops.map Flat.enc),(1,u2,(x.paths.map (·.name)).map Flat.enc)]++(1,v,((x.doors.take k).map (·.name)).map Flat.enc)::_) [b]from O.ext XF) n3 k3 (l':=((x.doors.take (k+1)).map (·.name)).map Flat.enc) (by rw[List.take_add_one,List.getElem?_eq_getElem c1,List.map_append,List.map_append];exact O3) (.inr ⟨_,i3,Nat.le_refl _⟩)).1;have gb3:=(k3 b (by omega) (.inr vne)).trans ((XF.old b hbx.2).trans gb);obtain⟨pv,nv,cv,xv,ev⟩:=O3.form;have hcells:v'.cells=some [v']:=by rw[ev];rfl
  rw[ev];repeat refine aC ?_
  rw[<-ev];refine W.dst (vs:=[v']) (cs':=[u1,u2,v',.slice none 0 0 0,.slice none 0 0 0,.slice none 0 0 0]) hr3 rfl rfl rfl rfl hcells rfl rfl gb3 rfl λq4 g4 hr4 s4=> ?_;have gb4:g4.get b=some (.cells [u1,u2,v',.slice none 0 0 0,.slice none 0 0 0,.slice none 0 0 0] false):=by rw[s4.get,aG]
  have kk4:∀k,k≠b->g4.get k=g3.get k:=λk hk=>by rw[s4.get,aA,if_neg (Ne.symm hk)]
  have X4:Ext H g4:=(X3.put (by omega) (by omega) _).trans s4.ext;have O5:=(O4.put s4.next kk4).1;repeat refine aC ?_
  repeat refine W.g ?_
  exact⟨k+1,aI c1,X4,rfl,rfl,rfl,rfl,c1,v',O5,gb4⟩
 repeat refine W.g ?_
 obtain⟨u3,hu3⟩:∃u,u=v:=⟨_,rfl⟩;rw[show k=x.doors.length by omega,List.take_length,<-hu3]at O;rw[<-hu3]at gb Lb;clear hu3 v;clear Lb;refine dB 1 2 3 6 λT=> ?_
 refine W.loop (σ:=Nat) (λk tm h'=>Ext H h'/\tm.look 1= .ptr (some (h.next,0))/\tm.look 2= .ptr (some (H1.next,0))/\tm.look 3= .ptr (some (b,0))/\tm.look 6= .int .i64 (k:Int)/\k<=x.routes.length/\∃v:CV,OwnG h' H.next [(1,u1,x.stops.map Flat.enc),(1,u2,(x.paths.map (·.name)).map Flat.enc),(1,u3,(x.doors.map (·.name)).map Flat.enc),(1,v,((x.routes.take k).map (·.name)).map Flat.enc),(1,.slice none 0 0 0,[]),(1,.slice none 0 0 0,[])] [b]/\h'.get b=some (.cells [u1,u2,u3,v,.slice none 0 0 0,.slice none 0 0 0] false)) (λk=>x.routes.length-k) ?_ (s:=0)
  ⟨Ext.x,rfl,rfl,rfl,rfl,Nat.zero_le _,_,O,gb⟩
 clear O gb X;rintro k tm h' ⟨X,w1,w2,w3,w6,hk,v,O,gb⟩;obtain⟨T,rfl⟩:=cE w1 w2 w3 w6;clear w1 w2 w3 w6;have nX:=X.next;have hbx:=O.x b (by simp);have Lb:LocE h' b 0 [u1,u2,u3,v,.slice none 0 0 0,.slice none 0 0 0]:=⟨_,_,gb,hbx.2,rfl⟩;by_cases c1:k<x.routes.length
 ·repeat refine W.g ?_
  have ds:=aD ((XH.trans X).fr fr);repeat (first|refine aC ?_|refine W.e λr_ h_ ds_ s_=> ?_)
  refine dQ t4 c1 rfl rfl rfl rfl rfl rfl rfl λi1 o1 e1 L1 re=> ?_;obtain⟨z1,z2,z3,rfl,_,_,_⟩:=re;repeat (first|refine aC ?_|refine W.e λr_ h_ ds_ s_=> ?_)
  refine bB ds_ rfl rfl rfl rfl λq2 g2 ds2 x2 n2 gg2=> ?_;have gg2:g2.get h_.next=some (.cells (Flat.enc x.routes[k].name) false):=gg2;have XF:=ds2.x;have nXF:=XF.next;have OR:OwnR h' H.next 1 v (((x.routes.take k).map (·.name)).map Flat.enc):=O.o (1,v,((x.routes.take k).map (·.name)).map Flat.enc) (by simp);have vne:idOf v≠[b]:=λe=>(List.nodup_append.1 O.nd).2.2 b (by simp[idsR,e]) b (by simp) rfl
  refine dC (H:=H) (z:=1) (l2:=[Flat.enc x.routes[k].name]) ds2.hri (X.trans XF) (OR.ext XF) (SlG.one (by omega) gg2) rfl rfl rfl rfl rfl rfl rfl rfl rfl rfl rfl rfl rfl (by
   rw[List.length_map,List.length_map,List.length_take];show(_+1)*16<=_;omega) λq3 v' g3 hr3 X3 n3 k3 O3 _ i3=> ?_
  have i3:=i3 (by simp);have O4:=(OwnG.turn (A:=[(1,u1,x.stops.map Flat.enc),(1,u2,(x.paths.map (·.name)).map Flat.enc),(1,u3,(x.doors.map (·.name)).map Flat.enc)]) (show OwnG g2 H.next ([(1,u1,x.stops.map Flat.enc),(1,u2,(x.paths.map (·.name)).map Flat.enc),(1,u3,(x.doors.map (·.name)).map Flat.enc)]++(1,v,((x.routes.take k).map (·.name)).map Flat.enc)::_) [b]from O.ext XF) n3 k3 (l':=((x.routes.take (k+1)).map (·.name)).map Flat.enc) (by rw[List.take_add_one,List.getElem?_eq_getElem c1,List.map_append,List.map_append];exact O3) (.inr ⟨_,i3,Nat.le_refl _⟩)).1;have gb3:=(k3 b (by omega) (.inr vne)).trans ((XF.old b hbx.2).trans gb);obtain⟨pv,nv,cv,xv,ev⟩:=O3.form;have hcells:v'.cells=some [v']:=by rw[ev];rfl
  rw[ev];repeat refine aC ?_
  rw[<-ev];refine W.dst (vs:=[v']) (cs':=[u1,u2,u3,v',.slice none 0 0 0,.slice none 0 0 0]) hr3 rfl rfl rfl rfl hcells rfl rfl gb3 rfl λq4 g4 hr4 s4=> ?_;have gb4:g4.get b=some (.cells [u1,u2,u3,v',.slice none 0 0 0,.slice none 0 0 0] false):=by rw[s4.get,aG]
  have kk4:∀k,k≠b->g4.get k=g3.get k:=λk hk=>by rw[s4.get,aA,if_neg (Ne.symm hk)]
  have X4:Ext H g4:=(X3.put (by omega) (by omega) _).trans s4.ext;have O5:=(O4.put s4.next kk4).1;repeat refine aC ?_
  repeat refine W.g ?_
  exact⟨k+1,aI c1,X4,rfl,rfl,rfl,rfl,c1,v',O5,gb4⟩
 repeat refine W.g ?_
 obtain⟨u4,hu4⟩:∃u,u=v:=⟨_,rfl⟩;rw[show k=x.routes.length by omega,List.take_length,<-hu4]at O;rw[<-hu4]at gb Lb;clear hu4 v;clear Lb;refine dB 1 2 3 7 λT=> ?_
 refine W.loop (σ:=Nat) (λk tm h'=>Ext H h'/\tm.look 1= .ptr (some (h.next,0))/\tm.look 2= .ptr (some (H1.next,0))/\tm.look 3= .ptr (some (b,0))/\tm.look 7= .int .i64 (k:Int)/\k<=x.trips.length/\∃v:CV,OwnG h' H.next [(1,u1,x.stops.map Flat.enc),(1,u2,(x.paths.map (·.name)).map Flat.enc),(1,u3,(x.doors.map (·.name)).map Flat.enc),(1,u4,(x.routes.map (·.name)).map Flat.enc),(1,v,((x.trips.take k).map (·.name)).map Flat.enc),(1,.slice none 0 0 0,[])] [b]/\h'.get b=some (.cells [u1,u2,u3,u4,v,.slice none 0 0 0] false)) (λk=>x.trips.length-k) ?_ (s:=0)
  ⟨Ext.x,rfl,rfl,rfl,rfl,Nat.zero_le _,_,O,gb⟩
 clear O gb X;rintro k tm h' ⟨X,w1,w2,w3,w7,hk,v,O,gb⟩;obtain⟨T,rfl⟩:=cE w1 w2 w3 w7;clear w1 w2 w3 w7;have nX:=X.next;have hbx:=O.x b (by simp);have Lb:LocE h' b 0 [u1,u2,u3,u4,v,.slice none 0 0 0]:=⟨_,_,gb,hbx.2,rfl⟩;by_cases c1:k<x.trips.length
 ·repeat refine W.g ?_
  have ds:=aD ((XH.trans X).fr fr);repeat (first|refine aC ?_|refine W.e λr_ h_ ds_ s_=> ?_)
  refine aE t5 c1 rfl rfl rfl rfl rfl rfl rfl λi1 o1 L1=> ?_;repeat (first|refine aC ?_|refine W.e λr_ h_ ds_ s_=> ?_)
  refine bB ds_ rfl rfl rfl rfl λq2 g2 ds2 x2 n2 gg2=> ?_;have gg2:g2.get h_.next=some (.cells (Flat.enc x.trips[k].name) false):=gg2;have XF:=ds2.x;have nXF:=XF.next;have OR:OwnR h' H.next 1 v (((x.trips.take k).map (·.name)).map Flat.enc):=O.o (1,v,((x.trips.take k).map (·.name)).map Flat.enc) (by simp);have vne:idOf v≠[b]:=λe=>(List.nodup_append.1 O.nd).2.2 b (by simp[idsR,e]) b (by simp) rfl
  refine dC (H:=H) (z:=1) (l2:=[Flat.enc x.trips[k].name]) ds2.hri (X.trans XF) (OR.ext XF) (SlG.one (by omega) gg2) rfl rfl rfl rfl rfl rfl rfl rfl rfl rfl rfl rfl rfl (by
   rw[List.length_map,List.length_map,List.length_take];show(_+1)*16<=_;omega) λq3 v' g3 hr3 X3 n3 k3 O3 _ i3=> ?_
  have i3:=i3 (by simp);have O4:=(OwnG.turn (A:=[(1,u1,x.stops.map Flat.enc),(1,u2,(x.paths.map (·.name)).map Flat.enc),(1,u3,(x.doors.map (·.name)).map Flat.enc),(1,u4,(x.routes.map (·.name)).map Flat.enc)]) (show OwnG g2 H.next ([(1,u1,x.stops.map Flat.enc),(1,u2,(x.paths.map (·.name)).map Flat.enc),(1,u3,(x.doors.map (·.name)).map Flat.enc),(1,u4,(x.routes.map (·.name)).map Flat.enc)]++(1,v,((x.trips.take k).map (·.name)).map Flat.enc)::_) [b]from O.ext XF) n3 k3 (l':=((x.trips.take (k+1)).map (·.name)).map Flat.enc) (by rw[List.take_add_one,List.getElem?_eq_getElem c1,List.map_append,List.map_append];exact O3) (.inr ⟨_,i3,Nat.le_refl _⟩)).1;have gb3:=(k3 b (by omega) (.inr vne)).trans ((XF.old b hbx.2).trans gb);obtain⟨pv,nv,cv,xv,ev⟩:=O3.form;have hcells:v'.cells=some [v']:=by rw[ev];rfl
  rw[ev];repeat refine aC ?_
  rw[<-ev];refine W.dst (vs:=[v']) (cs':=[u1,u2,u3,u4,v',.slice none 0 0 0]) hr3 rfl rfl rfl rfl hcells rfl rfl gb3 rfl λq4 g4 hr4 s4=> ?_;have gb4:g4.get b=some (.cells [u1,u2,u3,u4,v',.slice none 0 0 0] false):=by rw[s4.get,aG]
  have kk4:∀k,k≠b->g4.get k=g3.get k:=λk hk=>by rw[s4.get,aA,if_neg (Ne.symm hk)]
  have X4:Ext H g4:=(X3.put (by omega) (by omega) _).trans s4.ext;have O5:=(O4.put s4.next kk4).1;repeat refine aC ?_
  repeat refine W.g ?_
  exact⟨k+1,aI c1,X4,rfl,rfl,rfl,rfl,c1,v',O5,gb4⟩
 repeat refine W.g ?_
 obtain⟨u5,hu5⟩:∃u,u=v:=⟨_,rfl⟩;rw[show k=x.trips.length by omega,List.take_length,<-hu5]at O;rw[<-hu5]at gb Lb;clear hu5 v;clear Lb;refine dB 1 2 3 8 λT=> ?_
 refine W.loop (σ:=Nat) (λk tm h'=>Ext H h'/\tm.look 1= .ptr (some (h.next,0))/\tm.look 2= .ptr (some (H1.next,0))/\tm.look 3= .ptr (some (b,0))/\tm.look 8= .int .i64 (k:Int)/\k<=x.hazards.length/\∃v:CV,OwnG h' H.next [(1,u1,x.stops.map Flat.enc),(1,u2,(x.paths.map (·.name)).map Flat.enc),(1,u3,(x.doors.map (·.name)).map Flat.enc),(1,u4,(x.routes.map (·.name)).map Flat.enc),(1,u5,(x.trips.map (·.name)).map Flat.enc),(1,v,((x.hazards.take k).map (·.name)).map Flat.enc)] [b]/\h'.get b=some (.cells [u1,u2,u3,u4,u5,v] false)) (λk=>x.hazards.length-k) ?_ (s:=0)
  ⟨Ext.x,rfl,rfl,rfl,rfl,Nat.zero_le _,_,O,gb⟩
 clear O gb X;rintro k tm h' ⟨X,w1,w2,w3,w8,hk,v,O,gb⟩;obtain⟨T,rfl⟩:=cE w1 w2 w3 w8;clear w1 w2 w3 w8;have nX:=X.next;have hbx:=O.x b (by simp);have Lb:LocE h' b 0 [u1,u2,u3,u4,u5,v]:=⟨_,_,gb,hbx.2,rfl⟩;by_cases c1:k<x.hazards.length
 ·repeat refine W.g ?_
  have ds:=aD ((XH.trans X).fr fr);repeat (first|refine aC ?_|refine W.e λr_ h_ ds_ s_=> ?_)
  refine aE t6 c1 rfl rfl rfl rfl rfl rfl rfl λi1 o1 L1=> ?_;repeat (first|refine aC ?_|refine W.e λr_ h_ ds_ s_=> ?_)
  refine bB ds_ rfl rfl rfl rfl λq2 g2 ds2 x2 n2 gg2=> ?_;have gg2:g2.get h_.next=some (.cells (Flat.enc x.hazards[k].name) false):=gg2;have XF:=ds2.x;have nXF:=XF.next;have OR:OwnR h' H.next 1 v (((x.hazards.take k).map (·.name)).map Flat.enc):=O.o (1,v,((x.hazards.take k).map (·.name)).map Flat.enc) (by simp);have vne:idOf v≠[b]:=λe=>(List.nodup_append.1 O.nd).2.2 b (by simp[idsR,e]) b (by simp) rfl
  refine dC (H:=H) (z:=1) (l2:=[Flat.enc x.hazards[k].name]) ds2.hri (X.trans XF) (OR.ext XF) (SlG.one (by omega) gg2) rfl rfl rfl rfl rfl rfl rfl rfl rfl rfl rfl rfl rfl (by
   rw[List.length_map,List.length_map,List.length_take];show(_+1)*16<=_;omega) λq3 v' g3 hr3 X3 n3 k3 O3 _ i3=> ?_
  have i3:=i3 (by simp);have O4:=(OwnG.turn (A:=[(1,u1,x.stops.map Flat.enc),(1,u2,(x.paths.map (·.name)).map Flat.enc),(1,u3,(x.doors.map (·.name)).map Flat.enc),(1,u4,(x.routes.map (·.name)).map Flat.enc),(1,u5,(x.trips.map (·.name)).map Flat.enc)]) (show OwnG g2 H.next ([(1,u1,x.stops.map Flat.enc),(1,u2,(x.paths.map (·.name)).map Flat.enc),(1,u3,(x.doors.map (·.name)).map Flat.enc),(1,u4,(x.routes.map (·.name)).map Flat.enc),(1,u5,(x.trips.map (·.name)).map Flat.enc)]++(1,v,((x.hazards.take k).map (·.name)).map Flat.enc)::_) [b]from O.ext XF) n3 k3 (l':=((x.hazards.take (k+1)).map (·.name)).map Flat.enc) (by rw[List.take_add_one,List.getElem?_eq_getElem c1,List.map_append,List.map_append];exact O3) (.inr ⟨_,i3,Nat.le_refl _⟩)).1;have gb3:=(k3 b (by omega) (.inr vne)).trans ((XF.old b hbx.2).trans gb);obtain⟨pv,nv,cv,xv,ev⟩:=O3.form;have hcells:v'.cells=some [v']:=by rw[ev];rfl
  rw[ev];repeat refine aC ?_
  rw[<-ev];refine W.dst (vs:=[v']) (cs':=[u1,u2,u3,u4,u5,v']) hr3 rfl rfl rfl rfl hcells rfl rfl gb3 rfl λq4 g4 hr4 s4=> ?_;have gb4:g4.get b=some (.cells [u1,u2,u3,u4,u5,v'] false):=by rw[s4.get,aG]
  have kk4:∀k,k≠b->g4.get k=g3.get k:=λk hk=>by rw[s4.get,aA,if_neg (Ne.symm hk)]
  have X4:Ext H g4:=(X3.put (by omega) (by omega) _).trans s4.ext;have O5:=(O4.put s4.next kk4).1;repeat refine aC ?_
  repeat refine W.g ?_
  exact⟨k+1,aI c1,X4,rfl,rfl,rfl,rfl,c1,v',O5,gb4⟩
 repeat refine W.g ?_
 rw[show k=x.hazards.length by omega,List.take_length]at O;refine aK (vs:=[u1,u2,u3,u4,u5,v]) (cs':=[u1,u2,u3,u4,u5,v]) rfl rfl rfl rfl rfl rfl ((X.old _ (by omega)).trans gR) rfl λM nM gM kM=> ?_;repeat refine W.g ?_
 refine aJ rfl rfl gM rfl rfl ?_;have XM:Ext h M:=Ext.store (XH.trans X) nM kM (by omega) (by omega);have OM:OwnG M H.next _ [b]:=O.keep (by omega) λk hk=>kM k (λe=>by have:=(O.lt k hk).1;omega);exact q M _ _ _ _ _ _ XM ((show OwnG M H.next _ []from⟨OM.o,(List.nodup_append.1 OM.nd).1 |> λh=>by rw[List.append_nil];exact h,λk hk=>by cases hk⟩).low (by omega))
end
end Go.Proofs.YtfheibkikpefkaaGreatDoor
