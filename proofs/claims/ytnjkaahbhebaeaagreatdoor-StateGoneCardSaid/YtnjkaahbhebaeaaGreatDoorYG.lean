/- All numbers of a sheet. No condition. -/
import Derived.Test.YtnjkaahbhebaeaaGreatDoorXU
import Derived.Test.YtnjkaahbhebaeaaGreatDoorYF
set_option linter.unusedVariables false
set_option linter.unusedSimpArgs false
set_option maxRecDepth 100000
namespace Go.Proofs.YtnjkaahbhebaeaaGreatDoor
open Go Go.CM Go.CM.Tt
noncomputable section
set_option maxHeartbeats 8000000
theorem addTimes_w {h H:Heap} {tm:Tm} {Q:R->Prop} {b:Nat} {v:CV} {l:List Int} (t:Times) (X:Ext H h) (ob:OwnB h H b 1 v (l.map Flat.enc)) (hl:l.length<=1073741824)
  (q:∀h' v',Ext H h'->OwnB h' H b 1 v' ((l++t.nums).map Flat.enc)->Q (.val (.tup []) h')):W E1 (.call (.fn 305 [] [.ptr (some (b,0))]) [.agg t.enc]) tm h Q:=by
 refine W.fn (s:=fnOf Tryz.f305) rfl rfl rfl rfl ?_;have Lb:=ob.loc;repeat (first|refine W.g ?_|refine W.m λh_ X_ n_ g_ L_=> ?_|refine W.n λh_ X_ n_ g_ S_=> ?_)
 have S_:SlG _ 1 _ (t.nums.map Flat.enc):=S_
 refine W.apst (H:=H) (z:=1) (X.trans Ext.x) (ob.ext Ext.x) S_ rfl rfl rfl rfl rfl rfl rfl rfl rfl rfl rfl rfl (by
  simp only[List.length_map];show(_+3)*8<=_;omega) (λ_=>rfl) rfl (λ_=>rfl) (λ_=>rfl) rfl rfl λv' h' X' ob' _ _=> ?_
 repeat refine W.g ?_
 exact q _ _ X' (by rw[map_app];exact ob')
theorem numbers_w {h:Heap} {tm:Tm} {Q:R->Prop} {cs:List CV} {x:SheetD} (r:Rp.R h cs x) (few:x.few) (hl:x.nums.length<=1073741824)
  (q:∀h' v',Ext h h'->Sl h' v' x.nums->Q (.val v' h')):W E1 (.call (.fn 254 [] []) [.agg cs]) tm h Q:=by
 obtain⟨v1,v2,v3,v4,v5,v6,rfl,s1,s2,s3,s4,s5,s6⟩:=r;obtain⟨f1,f2,f3,f4,f5,f6⟩:=few;refine W.fn (s:=fnOf Tryz.f254) rfl rfl rfl rfl ?_;unfold SheetD.nums at hl q;obtain⟨pA,hpA⟩:∃pA,pA=x.paths.flatMap λp=>[p.len]:=⟨_,rfl⟩
 have e1:(x.paths.map λp=>p.len)=pA:=by rw[hpA];induction x.paths with
  |nil=>rfl
  |cons a l ih=>rw[List.map_cons,ih];rfl
 obtain⟨dA,hdA⟩:∃dA,dA=x.doors.flatMap λd=>d.len::d.times.nums:=⟨_,rfl⟩;obtain⟨rA,hrA⟩:∃rA,rA=x.routes.flatMap λr=>r.rides++r.stays:=⟨_,rfl⟩;obtain⟨tA,htA⟩:∃tA,tA=x.trips.flatMap λt=>[t.frm,t.evr,t.untl]:=⟨_,rfl⟩;obtain⟨hA,hhA⟩:∃hA,hA=x.hazards.flatMap λh=>h.times.nums:=⟨_,rfl⟩;rw[e1,<-hdA,<-hrA,<-htA,<-hhA]at hl q;clear e1;simp only[List.length_append,List.length_cons,List.length_nil]at hl;repeat (refine W.seq ?_)
 refine W.region ?_;refine W.box rfl rfl rfl λH XH nH gH LH=> ?_;repeat (first|refine W.g ?_|refine W.m λh_ X_ n_ g_ L_=> ?_|refine W.n λh_ X_ n_ g_ S_=> ?_)
 rename_i hb Xb nb gb
 have O:OwnB h_ H hb.next 1 (.slice (some (H.next,0)) 1 1 0) (([x.hz]:List Int).map Flat.enc):=⟨g_,by omega,by omega,.inr ⟨H.next,0,false,rfl,Nat.le_refl _,by omega,(X_.old _ (by omega)).trans gb,λe he=>(by
  have:e=[.int .i64 x.hz]:=by simpa[Flat.enc]using he
  rw[this];rfl),.inl ⟨rfl,.inr rfl⟩⟩,λe=>by
  have:H.next=hb.next:=by simpa[idOf]using e
  omega⟩
 have Y:Ext H h_:=Ext.x;have hlo:H.next<hb.next:=by omega
 clear S_ L_ g_ gb;refine W.k6 1 3 4 20 21 22 λT=> ?_;obtain⟨b,hbe⟩:∃b,b=hb.next:=⟨_,rfl⟩;rw[<-hbe]at O hlo;rw[<-hbe]
 refine W.loop (σ:=Nat) (λk tm h'=>Ext H h'/\tm.look 1= .ptr (some (h.next,0))/\tm.look 3= .ptr (some (b,0))/\tm.look 4= .fn 305 [] [.ptr (some (b,0))]/\tm.look 20=v2/\tm.look 21= .int .i64 (x.paths.length:Int)/\tm.look 22= .int .i64 (k:Int)/\k<=x.paths.length/\∃vo,OwnB h' H b 1 vo (([x.hz]++(x.paths.take k).flatMap (λp=>[p.len])).map Flat.enc)) (λk=>x.paths.length-k) ?_ (s:=0)
  ⟨Y,rfl,rfl,rfl,rfl,rfl,rfl,Nat.zero_le _,_,by rw[List.take_zero,List.flatMap_nil,List.append_nil];exact O⟩
 clear O;rintro k tm h' ⟨X,w1,w3,w4,w20,w21,w22,hk,vo,O⟩;obtain⟨T,rfl⟩:=Tm.t6 w1 w3 w4 w20 w21 w22;clear w1 w3 w4 w20 w21 w22;by_cases c1:k<x.paths.length
 ·have Lb:=O.loc
  have hfl:=flat_le (l:=x.paths) (f:=(λp=>[p.len])) (k:=k+1);rw[take_flat c1]at hfl;simp only[List.length_append,List.length_cons,List.length_nil]at hfl;rw[<-hpA]at hfl;repeat refine W.g ?_
  refine W.iz λi_ o_ L_=> ?_;repeat (first|refine W.g ?_|refine W.m λh_ X_ n_ g_ L_=> ?_|refine W.n λh_ X_ n_ g_ S_=> ?_)
  have S_:SlG _ 1 _ (([x.paths[k].len]:List Int).map Flat.enc):=S_
  refine W.apst (H:=H) (z:=1) Ext.x (O.ext Ext.x) S_ rfl rfl rfl rfl rfl rfl rfl rfl rfl rfl rfl rfl (by
   simp only[List.length_map,List.length_append,List.length_cons,List.length_nil];show _*8<=_;omega) (λ_=>rfl) rfl (λ_=>rfl) (λ_=>rfl) rfl rfl λv' h2 X2 O2 _ _=> ?_
  repeat refine W.g ?_
  exact⟨k+1,lessN c1,X2,rfl,rfl,rfl,rfl,rfl,rfl,c1,_,by rw[take_flat c1,<-List.append_assoc,map_app];exact O2⟩
 repeat refine W.g ?_
 rw[show k=x.paths.length by omega,List.take_length,<-hpA]at O;refine W.k6 1 3 4 33 34 35 λT=> ?_
 refine W.loop (σ:=Nat) (λk tm h'=>Ext H h'/\tm.look 1= .ptr (some (h.next,0))/\tm.look 3= .ptr (some (b,0))/\tm.look 4= .fn 305 [] [.ptr (some (b,0))]/\tm.look 33=v3/\tm.look 34= .int .i64 (x.doors.length:Int)/\tm.look 35= .int .i64 (k:Int)/\k<=x.doors.length/\∃vo,OwnB h' H b 1 vo ((([x.hz]++pA)++(x.doors.take k).flatMap (λd=>d.len::d.times.nums)).map Flat.enc)) (λk=>x.doors.length-k) ?_ (s:=0)
  ⟨X,rfl,rfl,rfl,rfl,rfl,rfl,Nat.zero_le _,_,by rw[List.take_zero,List.flatMap_nil,List.append_nil];exact O⟩
 clear O;rintro k tm h' ⟨X,w1,w3,w4,w33,w34,w35,hk,vo,O⟩;obtain⟨T,rfl⟩:=Tm.t6 w1 w3 w4 w33 w34 w35;clear w1 w3 w4 w33 w34 w35;by_cases c1:k<x.doors.length
 ·have Lb:=O.loc
  have hfl:=flat_le (l:=x.doors) (f:=(λd=>d.len::d.times.nums)) (k:=k+1);rw[take_flat c1]at hfl;simp only[List.length_append,List.length_cons,List.length_nil]at hfl;rw[<-hdA]at hfl
  have nb2:idOf vo≠[h'.next]:=by
   rcases O.own.notIn (Nat.le_refl _)with e|⟨i,e,hi,_⟩
   ·rw[e];intro h;cases h
   ·rw[e];intro h;exact hi (by simpa using h)
  have blt:=O.lt;repeat refine W.g ?_
  refine W.iz λi_ o_ L_=> ?_;repeat (first|refine W.g ?_|refine W.m λh_ X_ n_ g_ L_=> ?_|refine W.n λh_ X_ n_ g_ S_=> ?_)
  rename_i hv Xv nv gv;have Lv:LocE hv h'.next 0 (x.doors[k]).enc:=L_;clear L_ gv g_;have S_:SlG _ 1 _ (([x.doors[k].len]:List Int).map Flat.enc):=S_
  refine W.apst (H:=H) (z:=1) Ext.x (O.ext Ext.x) S_ rfl rfl rfl rfl rfl rfl rfl rfl rfl rfl rfl rfl (by
   simp only[List.length_map,List.length_append,List.length_cons,List.length_nil];show _*8<=_;omega) (λ_=>rfl) rfl (λ_=>rfl) (λ_=>rfl) rfl rfl λv' h2 X2 O2 keep2 n2=> ?_
  rw[<-map_app]at O2;have Lv2:LocE h2 h'.next 0 (x.doors[k]).enc:=(Lv.ext X_).of_get (keep2 _ (by omega) (by omega) nb2) n2;clear Lv Lb;repeat refine W.g ?_
  refine W.call rfl rfl rfl (addTimes_w (x.doors[k]).times X2 O2 (by
   simp only[List.length_append,List.length_cons,List.length_nil];omega) λh3 v3 X3 O3=> ?_)
  repeat refine W.g ?_
  exact⟨k+1,lessN c1,X3,rfl,rfl,rfl,rfl,rfl,rfl,c1,_,by rw[take_flat c1];simpa[List.append_assoc]using O3⟩
 repeat refine W.g ?_
 rw[show k=x.doors.length by omega,List.take_length,<-hdA]at O;refine W.k6 1 3 4 50 51 52 λT=> ?_
 refine W.loop (σ:=Nat) (λk tm h'=>Ext H h'/\tm.look 1= .ptr (some (h.next,0))/\tm.look 3= .ptr (some (b,0))/\tm.look 4= .fn 305 [] [.ptr (some (b,0))]/\tm.look 50=v4/\tm.look 51= .int .i64 (x.routes.length:Int)/\tm.look 52= .int .i64 (k:Int)/\k<=x.routes.length/\∃vo,OwnB h' H b 1 vo ((([x.hz]++pA++dA)++(x.routes.take k).flatMap (λr=>r.rides++r.stays)).map Flat.enc)) (λk=>x.routes.length-k) ?_ (s:=0)
  ⟨X,rfl,rfl,rfl,rfl,rfl,rfl,Nat.zero_le _,_,by rw[List.take_zero,List.flatMap_nil,List.append_nil];exact O⟩
 clear O;rintro k tm h' ⟨X,w1,w3,w4,w50,w51,w52,hk,vo,O⟩;obtain⟨T,rfl⟩:=Tm.t6 w1 w3 w4 w50 w51 w52;clear w1 w3 w4 w50 w51 w52;by_cases c1:k<x.routes.length
 ·have Lb:=O.loc
  have hfl:=flat_le (l:=x.routes) (f:=(λr=>r.rides++r.stays)) (k:=k+1);rw[take_flat c1]at hfl;simp only[List.length_append,List.length_cons,List.length_nil]at hfl;rw[<-hrA]at hfl
  have nb2:idOf vo≠[h'.next]:=by
   rcases O.own.notIn (Nat.le_refl _)with e|⟨i,e,hi,_⟩
   ·rw[e];intro h;cases h
   ·rw[e];intro h;exact hi (by simpa using h)
  have blt:=O.lt;repeat refine W.g ?_
  refine W.ixR s4 c1 rfl rfl rfl rfl rfl rfl rfl λi_ o_ e L_ r_=> ?_;obtain⟨u1,u2,u3,rfl,t1,t2,t3⟩:=r_;repeat (first|refine W.g ?_|refine W.m λh_ X_ n_ g_ L_=> ?_)
  have dy:DY (λc=>c=h'.next\/c=b) h_ [] []:=DY.start (λc hc=>by rcases hc with rfl|rfl<;>omega)
  have Lb1:LocE h_ b 0 [vo]:=Lb.ext X_;try refine W.dv ?_
  refine W.ldY (k:=0) dy (.inr rfl) Lb1 rfl rfl rfl rfl rfl rfl rfl λr1 ha dy sa Lba=> ?_;have La:=L_.ext sa.ext;try refine W.dv ?_
  refine W.ldY dy (.inl rfl) La rfl rfl rfl rfl rfl rfl rfl λr2 hc dy sc Lc=> ?_;have Xc:Ext h' hc:=(X_.trans sa.ext).trans sc.ext;have X1:=XH.trans X;try refine W.dv ?_
  refine W.apY (H:=H) (z:=1) (l2:=x.routes[k].rides.map Flat.enc) dy (X.trans Xc) (O.own.ext Xc) ((Sl.to_map Flat.iff t2).ext (X1.trans Xc)) (λc hc=> ?_) rfl rfl rfl rfl rfl rfl rfl rfl rfl rfl rfl rfl rfl (by
   simp only[List.length_map,List.length_append,List.length_cons,List.length_nil];show _*8<=_;omega) λr3 v3 hd dy Xd bd nd O3 i3=> ?_
  ·have hn2:∀c,H.next<=c->c∉idOf u2:=λc hc=>SlG.notIn (Sl.to_map Flat.iff (t2.ext XH)) hc
   have hs:=X.next;intro hm;rcases List.mem_append.1 hm with hm|hm
   ·rcases O.own.notIn (Nat.le_refl _)with e|⟨i,e,hi,_⟩
    ·rw[e]at hm;cases hm
    ·rw[e]at hm
     have:c=i:=by simpa using hm
     rcases hc with rfl|rfl
     ·exact hi this.symm
     ·exact O.ne (by rw[e,this])
   ·refine hn2 c ?_ hm
    rcases hc with rfl|rfl<;>omega
  have n1c:h_.next<=hc.next:=by rw[sc.next,sa.next];exact Nat.le_refl _
  have nbv:=i3 b (by omega) O.ne;obtain⟨pv,nv,cv,xv,e⟩:=O3.form;cases e;try refine W.dv ?_
  refine W.ldY dy (.inl rfl) (Lc.of_get (bd _ (.inl rfl)) nd) rfl rfl rfl rfl rfl rfl rfl λr4 he dy se Le=> ?_;have Xe:Ext H he:=Xd.trans se.ext;try refine W.dv ?_
  refine W.apY (H:=H) (z:=1) (l2:=x.routes[k].stays.map Flat.enc) dy Xe (O3.ext se.ext) ((Sl.to_map Flat.iff t3).ext (XH.trans Xe)) (λc hc=> ?_) rfl rfl rfl rfl rfl rfl rfl rfl rfl rfl rfl rfl rfl (by
   simp only[List.length_map,List.length_append,List.length_cons,List.length_nil];show _*8<=_;omega) λr5 v5 hf dy Xf bf nf O5 i5=> ?_
  ·have hn3:c∉idOf u3:=SlG.notIn (Sl.to_map Flat.iff (t3.ext XH)) (by have hs:=X.next;rcases hc with rfl|rfl<;>omega)
   intro hm;rcases List.mem_append.1 hm with hm|hm
   ·rcases hc with rfl|rfl
    ·exact(i3 h'.next (by omega) nb2) (by
      rcases hp:idOf (CV.slice pv nv cv xv)with _|⟨a,r⟩
      ·rw[hp]at hm;cases hm
      ·have h1:r=[]:=by
         cases pv with
         |none=>cases hp
         |some p=>cases hp;rfl
       rw[hp,h1]at hm;rw[h1,List.mem_singleton.1 hm])
    ·exact nbv (by
      rcases hp:idOf (CV.slice pv nv cv xv)with _|⟨a,r⟩
      ·rw[hp]at hm;cases hm
      ·have h1:r=[]:=by
         cases pv with
         |none=>cases hp
         |some p=>cases hp;rfl
       rw[hp,h1]at hm;rw[h1,List.mem_singleton.1 hm])
   ·exact hn3 hm
  have nbv5:=i5 b (by rw[se.next];omega) nbv
  have hfn:hc.next<=hf.next:=by
   have:=se.next;omega
  have gb5:hf.get b=some (.cells [vo] false):=(bf b (.inr rfl)).trans ((se.get b).trans ((bd b (.inr rfl)).trans ((sc.get b).trans ((sa.get b).trans ((X_.old b blt).trans O.at')))));obtain⟨pv,nv,cv,xv,e⟩:=O5.form;cases e;try refine W.dv ?_
  refine W.dst (vs:=[.slice pv nv cv xv]) (cs':=[.slice pv nv cv xv]) (λr hr=>(dy.r r hr).1) rfl rfl rfl rfl rfl rfl rfl gb5 rfl λr6 hg hr6 s6=> ?_;try refine W.dv ?_
  repeat refine W.g ?_
  have hlb:b<hf.next:=by omega
  have Xg:Ext H hg:=(Xf.put (by omega) hlb _).trans s6.ext
  have Og:OwnB hg H b 1 (.slice pv nv cv xv) _:=⟨by rw[s6.get,put_same],by rw[s6.next];exact hlb,O.lo,O5.other (by rw[s6.next];exact Nat.le_refl _) λk _ _ hk=>by
   rw[s6.get,Heap.get_put,if_neg (λe=>nbv5 (by rw[hk,e]))],nbv5⟩
  exact⟨k+1,lessN c1,Xg,rfl,rfl,rfl,rfl,rfl,rfl,c1,_,by rw[take_flat c1];simpa[List.append_assoc]using Og⟩
 repeat refine W.g ?_
 rw[show k=x.routes.length by omega,List.take_length,<-hrA]at O;refine W.k6 1 3 4 65 66 67 λT=> ?_
 refine W.loop (σ:=Nat) (λk tm h'=>Ext H h'/\tm.look 1= .ptr (some (h.next,0))/\tm.look 3= .ptr (some (b,0))/\tm.look 4= .fn 305 [] [.ptr (some (b,0))]/\tm.look 65=v5/\tm.look 66= .int .i64 (x.trips.length:Int)/\tm.look 67= .int .i64 (k:Int)/\k<=x.trips.length/\∃vo,OwnB h' H b 1 vo ((([x.hz]++pA++dA++rA)++(x.trips.take k).flatMap (λt=>[t.frm,t.evr,t.untl])).map Flat.enc)) (λk=>x.trips.length-k) ?_ (s:=0)
  ⟨X,rfl,rfl,rfl,rfl,rfl,rfl,Nat.zero_le _,_,by rw[List.take_zero,List.flatMap_nil,List.append_nil];exact O⟩
 clear O;rintro k tm h' ⟨X,w1,w3,w4,w65,w66,w67,hk,vo,O⟩;obtain⟨T,rfl⟩:=Tm.t6 w1 w3 w4 w65 w66 w67;clear w1 w3 w4 w65 w66 w67;by_cases c1:k<x.trips.length
 ·have Lb:=O.loc
  have hfl:=flat_le (l:=x.trips) (f:=(λt=>[t.frm,t.evr,t.untl])) (k:=k+1);rw[take_flat c1]at hfl;simp only[List.length_append,List.length_cons,List.length_nil]at hfl;rw[<-htA]at hfl;repeat refine W.g ?_
  refine W.iz λi_ o_ L_=> ?_;repeat (first|refine W.g ?_|refine W.m λh_ X_ n_ g_ L_=> ?_|refine W.n λh_ X_ n_ g_ S_=> ?_)
  have S_:SlG _ 1 _ (([x.trips[k].frm,x.trips[k].evr,x.trips[k].untl]:List Int).map Flat.enc):=S_
  refine W.apst (H:=H) (z:=1) Ext.x (O.ext Ext.x) S_ rfl rfl rfl rfl rfl rfl rfl rfl rfl rfl rfl rfl (by
   simp only[List.length_map,List.length_append,List.length_cons,List.length_nil];show _*8<=_;omega) (λ_=>rfl) rfl (λ_=>rfl) (λ_=>rfl) rfl rfl λv' h2 X2 O2 _ _=> ?_
  repeat refine W.g ?_
  exact⟨k+1,lessN c1,X2,rfl,rfl,rfl,rfl,rfl,rfl,c1,_,by rw[take_flat c1,<-List.append_assoc,map_app];exact O2⟩
 repeat refine W.g ?_
 rw[show k=x.trips.length by omega,List.take_length,<-htA]at O;refine W.k6 1 3 4 82 83 84 λT=> ?_
 refine W.loop (σ:=Nat) (λk tm h'=>Ext H h'/\tm.look 1= .ptr (some (h.next,0))/\tm.look 3= .ptr (some (b,0))/\tm.look 4= .fn 305 [] [.ptr (some (b,0))]/\tm.look 82=v6/\tm.look 83= .int .i64 (x.hazards.length:Int)/\tm.look 84= .int .i64 (k:Int)/\k<=x.hazards.length/\∃vo,OwnB h' H b 1 vo ((([x.hz]++pA++dA++rA++tA)++(x.hazards.take k).flatMap (λh=>h.times.nums)).map Flat.enc)) (λk=>x.hazards.length-k) ?_ (s:=0)
  ⟨X,rfl,rfl,rfl,rfl,rfl,rfl,Nat.zero_le _,_,by rw[List.take_zero,List.flatMap_nil,List.append_nil];exact O⟩
 clear O;rintro k tm h' ⟨X,w1,w3,w4,w82,w83,w84,hk,vo,O⟩;obtain⟨T,rfl⟩:=Tm.t6 w1 w3 w4 w82 w83 w84;clear w1 w3 w4 w82 w83 w84;by_cases c1:k<x.hazards.length
 ·have Lb:=O.loc
  have hfl:=flat_le (l:=x.hazards) (f:=(λh=>h.times.nums)) (k:=k+1);rw[take_flat c1]at hfl;simp only[List.length_append,List.length_cons,List.length_nil]at hfl;rw[<-hhA]at hfl
  have nb2:idOf vo≠[h'.next]:=by
   rcases O.own.notIn (Nat.le_refl _)with e|⟨i,e,hi,_⟩
   ·rw[e];intro h;cases h
   ·rw[e];intro h;exact hi (by simpa using h)
  have blt:=O.lt;repeat refine W.g ?_
  refine W.iz λi_ o_ L_=> ?_;repeat (first|refine W.g ?_|refine W.m λh_ X_ n_ g_ L_=> ?_)
  refine W.call rfl rfl rfl (addTimes_w (x.hazards[k]).times (X.trans X_) (O.ext X_) (by
   simp only[List.length_append,List.length_cons,List.length_nil];omega) λh3 v3 X3 O3=> ?_)
  repeat refine W.g ?_
  exact⟨k+1,lessN c1,X3,rfl,rfl,rfl,rfl,rfl,rfl,c1,_,by rw[take_flat c1];simpa[List.append_assoc]using O3⟩
 have Lb:=O.loc;repeat refine W.g ?_
 rw[show k=x.hazards.length by omega,List.take_length,<-hhA]at O;exact q _ _ (XH.trans X) O.own.toSl
end
end Go.Proofs.YtnjkaahbhebaeaaGreatDoor

namespace Go.Proofs.YtnjkaahbhebaeaaGreatDoor
open Go Go.CM Go.CM.Tt
noncomputable section
set_option maxHeartbeats 8000000
theorem check1_w {h:Heap} {tm:Tm} {Q:R->Prop} (s:Str) (rh:RH h) (q:∀h' (b:Bool),Ext h h'->(b=true↔¬NameOk s)->Q (.val (.bool b) h')):W E1 (.call (.fn 251 [] []) [.str s]) tm h Q:=by
 refine W.fn (s:=fnOf Tryz.f251) rfl rfl rfl rfl ?_;repeat refine W.g ?_
 refine W.call rfl rfl rfl (name_w s rh λh' b X hb=> ?_);cases b
 ·repeat refine W.g ?_
  exact q h' true X (Iff.intro (λ_ h=>by cases hb.2 h) (λ_=>rfl))
 ·repeat refine W.g ?_
  exact q h' false X (Iff.intro (λh=>by cases h) (λh=>absurd (hb.1 rfl) h))
theorem check2_w {h:Heap} {tm:Tm} {Q:R->Prop} (n:Int) (q:∀h' (b:Bool),Ext h h'->(b=true↔¬TickOk n)->Q (.val (.bool b) h')):W E1 (.call (.fn 255 [] []) [.int .i64 n]) tm h Q:=by
 refine W.fn (s:=fnOf Tryz.f255) rfl rfl rfl rfl ?_;repeat refine W.g ?_
 refine W.call rfl rfl rfl (tick_w n λe he=> ?_);by_cases c:e=0
 ·repeat refine W.g ?_
  exact q h false (Ext.refl _) (Iff.intro (λh=>by cases h) (λh=>absurd (he.1 c) h))
 ·repeat refine W.g ?_
  exact q h true (Ext.refl _) (Iff.intro (λ_ h=>c (he.2 h)) (λ_=>rfl))
theorem check3_w {h:Heap} {tm:Tm} {Q:R->Prop} {cs:List CV} {r:RouteS} (rr:Rp.R h cs r) (hm:r.stops.length<=1000/\r.rides.length<=1000/\r.stays.length<=1000) (q:∀h' (b:Bool),Ext h h'->(b=true↔¬r.ok)->Q (.val (.bool b) h')):W E1 (.call (.fn 257 [] []) [.agg cs]) tm h Q:=by
 obtain⟨v1,v2,v3,rfl,s1,s2,s3⟩:=rr;refine W.fn (s:=fnOf Tryz.f257) rfl rfl rfl rfl ?_;repeat (refine W.seq ?_)
 refine W.region ?_;refine W.box rfl rfl rfl λH XH nH gH LH=> ?_;by_cases c1:r.stops.length<2
 ·repeat refine W.g ?_
  exact q _ true XH (Iff.intro (λ_ h=>by have:=h.1;omega) (λ_=>rfl))
 by_cases c2:32<r.stops.length
 ·repeat refine W.g ?_
  exact q _ true XH (Iff.intro (λ_ h=>by have:=h.2.1;omega) (λ_=>rfl))
 by_cases c3:r.rides.length+1=r.stops.length
 ·by_cases c4:r.stays.length+2=r.stops.length
  ·repeat refine W.g ?_
   exact q _ false XH (Iff.intro (λh=>by cases h) (λh=>absurd ⟨by omega,by omega,c3,c4⟩ h))
  ·repeat refine W.g ?_
   exact q _ true XH (Iff.intro (λ_ h=>c4 h.2.2.2) (λ_=>rfl))
 ·repeat refine W.g ?_
  exact q _ true XH (Iff.intro (λ_ h=>c3 h.2.2.1) (λ_=>rfl))
theorem sheetCheck_w {h:Heap} {tm:Tm} {Q:R->Prop} {cs:List CV} {x:SheetD} (r:Rp.R h cs x) (rh:RH h) (sm:x.slim) (q:∀h',Ext h h'->Q (.val (.int .i64 x.err) h')):W E1 (.call (.fn 218 [] []) [.agg cs]) tm h Q:=by
 have r0:=r;obtain⟨v1,v2,v3,v4,v5,v6,rfl,s1,s2,s3,s4,s5,s6⟩:=r;refine W.fn (s:=fnOf Tryz.f218) rfl rfl rfl rfl ?_;repeat (refine W.seq ?_)
 refine W.region ?_;refine W.box rfl rfl rfl λH XH nH gH LH=> ?_;by_cases c1:256<x.stops.length
 ·repeat refine W.g ?_
  have e:x.err=3:=if_pos (λg=>by obtain⟨g1,g2,g3,g4,g5,g6⟩:=g;omega);rw[e]at q;exact q _ XH
 by_cases c2:1024<x.paths.length
 ·repeat refine W.g ?_
  have e:x.err=3:=if_pos (λg=>by obtain⟨g1,g2,g3,g4,g5,g6⟩:=g;omega);rw[e]at q;exact q _ XH
 by_cases c3:256<x.doors.length
 ·repeat refine W.g ?_
  have e:x.err=3:=if_pos (λg=>by obtain⟨g1,g2,g3,g4,g5,g6⟩:=g;omega);rw[e]at q;exact q _ XH
 by_cases c4:256<x.routes.length
 ·repeat refine W.g ?_
  have e:x.err=3:=if_pos (λg=>by obtain⟨g1,g2,g3,g4,g5,g6⟩:=g;omega);rw[e]at q;exact q _ XH
 by_cases c5:1024<x.trips.length
 ·repeat refine W.g ?_
  have e:x.err=3:=if_pos (λg=>by obtain⟨g1,g2,g3,g4,g5,g6⟩:=g;omega);rw[e]at q;exact q _ XH
 by_cases c6:256<x.hazards.length
 ·repeat refine W.g ?_
  have e:x.err=3:=if_pos (λg=>by obtain⟨g1,g2,g3,g4,g5,g6⟩:=g;omega);rw[e]at q;exact q _ XH
 have few:x.few:=⟨by omega,by omega,by omega,by omega,by omega,by omega⟩;repeat refine W.g ?_
 refine W.call rfl rfl rfl (names_w (Rp.ext XH r0) few (SheetD.all_len few sm) λh1 va X1 sa=> ?_);refine W.k2 1 40 λT=> ?_;refine W.call rfl rfl rfl (conF_str 251 [] [] (λs=>¬NameOk s) sa (by have:=SheetD.all_len few sm;omega) (λs _ tm h' Q X q=>check1_w s (((rh.ext XH).ext X1).ext X) q) λh2 b X2 hb=> ?_);cases b
 rotate_left
 ·repeat refine W.g ?_
  obtain⟨s,hs,hn⟩:=hb.1 rfl
  have e:x.err=7:=by
   unfold SheetD.err;rw[if_neg (λg=>g few),if_pos (λg=>hn (g s hs))]
  rw[e]at q;exact q _ (XH.trans (X1.trans X2))
 have okN:∀s∈x.all,NameOk s:=λs hs=>Classical.byContradiction λhn=>by cases hb.2 ⟨s,hs,hn⟩
 clear hb sa;have Y2:=X1.trans X2;refine W.k2 1 41 λT=> ?_;repeat refine W.g ?_
 refine W.call rfl rfl rfl (numbers_w (Rp.ext (XH.trans Y2) r0) few (SheetD.nums_len few sm) λh3 vn X3 sn=> ?_);refine W.k2 1 44 λT=> ?_;refine W.call rfl rfl rfl (conF_int 255 [] [] (λn=>¬TickOk n) sn (by have:=SheetD.nums_len few sm;omega) (λn _ tm h' Q X q=>check2_w n q) λh4 b X4 hb=> ?_);cases b
 rotate_left
 ·repeat refine W.g ?_
  obtain⟨n,hn,hp⟩:=hb.1 rfl
  have e:x.err=9:=by
   unfold SheetD.err;rw[if_neg (λg=>g few),if_neg (λg=>g okN),if_pos (λg=>hp (g n hn))]
  rw[e]at q;exact q _ (XH.trans (Y2.trans (X3.trans X4)))
 have okT:∀n∈x.nums,TickOk n:=λn hn=>Classical.byContradiction λhp=>by cases hb.2 ⟨n,hn,hp⟩
 clear hb sn;have Y4:=Y2.trans (X3.trans X4);refine W.k2 1 45 λT=> ?_;repeat refine W.g ?_
 have few4:=few.2.2.2.1;refine W.call rfl rfl rfl (conF_route 257 [] [] (λr=>¬r.ok) (s4.ext (XH.trans Y4)) (by omega) (λr hr e re tm h' Q X q=>check3_w (Rp.ext X re) (sm r hr) q) λh5 b X5 hb=> ?_);cases b
 ·repeat refine W.g ?_
  have okR:∀r∈x.routes,r.ok:=λr hr=>Classical.byContradiction λhp=>by cases hb.2 ⟨r,hr,hp⟩
  have e:x.err=0:=by
   unfold SheetD.err;rw[if_neg (λg=>g few),if_neg (λg=>g okN),if_neg (λg=>g okT),if_neg (λg=>g okR)]
  rw[e]at q;exact q _ (XH.trans (Y4.trans X5))
 ·repeat refine W.g ?_
  obtain⟨r,hr,hp⟩:=hb.1 rfl
  have e:x.err=2:=by
   unfold SheetD.err;rw[if_neg (λg=>g few),if_neg (λg=>g okN),if_neg (λg=>g okT),if_pos (λg=>hp (g r hr))]
  rw[e]at q;exact q _ (XH.trans (Y4.trans X5))
end
end Go.Proofs.YtnjkaahbhebaeaaGreatDoor
