/- The document's answer: all numbers of a sheet; may a sheet be? No condition but that memory beyond the next number is empty. -/
import Derived.Test.YtfheibkikpefkaaGreatDoorXU
import Derived.Test.YtfheibkikpefkaaGreatDoorRC
set_option linter.unusedVariables false
set_option linter.unusedSimpArgs false
namespace Go.Proofs.YtfheibkikpefkaaGreatDoor
open Go Go.CM Go.CM.Tt
noncomputable section
set_option maxHeartbeats 16000000
theorem aEe {h:Heap} {tm:Tm} {Q:R->Prop} {cs:List CV} {x:SheetD} (r:Rp.R h cs x) (fr:Fresh h) (few:x.few) (hl:x.nums.length<=1073741824)
  (q:∀h' v',Ext h h'->Sl h' v' x.nums->Q (.val v' h')):W E1 (.call (.fn 133 [] []) [.agg cs]) tm h Q:=by
 obtain⟨v1,v2,v3,v4,v5,v6,rfl,s1,s2,s3,s4,s5,s6⟩:=r;obtain⟨f1,f2,f3,f4,f5,f6⟩:=few;refine W.fn (s:=aB Tryz.f133) rfl rfl rfl rfl ?_
 have hn:x.nums=((((([x.hz]++(x.paths.flatMap λp=>[p.len]))++(x.doors.flatMap λd=>[d.len,d.times.frm,d.times.evr,d.times.len]))++(x.routes.flatMap λr=>r.rides++r.stays))++(x.trips.flatMap λt=>[t.frm,t.evr,t.untl]))++(x.hazards.flatMap λh=>[h.times.frm,h.times.evr,h.times.len])):=by
  unfold SheetD.nums;rw[List.map_eq_flatMap];rfl
 rw[hn]at hl q;obtain⟨pA,hpA⟩:∃pA,pA=x.paths.flatMap λp=>[p.len]:=⟨_,rfl⟩;obtain⟨dA,hdA⟩:∃dA,dA=x.doors.flatMap λd=>[d.len,d.times.frm,d.times.evr,d.times.len]:=⟨_,rfl⟩;obtain⟨rA,hrA⟩:∃rA,rA=x.routes.flatMap λr=>r.rides++r.stays:=⟨_,rfl⟩;obtain⟨tA,htA⟩:∃tA,tA=x.trips.flatMap λt=>[t.frm,t.evr,t.untl]:=⟨_,rfl⟩;obtain⟨hA,hhA⟩:∃hA,hA=x.hazards.flatMap λh=>[h.times.frm,h.times.evr,h.times.len]:=⟨_,rfl⟩;rw[<-hpA,<-hdA,<-hrA,<-htA,<-hhA]at hl q;simp only[List.length_append]at hl;repeat (refine W.seq ?_)
 refine W.region ?_;refine W.box rfl rfl rfl λH XH nH gH LH=> ?_;repeat (first|refine W.g ?_|refine W.n λh_ X_ n_ g_ S_=> ?_)
 have O:OwnR h_ H.next 1 (.slice (some (H.next,0)) 1 1 0) ([x.hz].map Flat.enc):= .inr ⟨H.next,0,false,rfl,Nat.le_refl _,by omega,g_,λe he=>(by rcases List.mem_singleton.1 he with rfl;rfl),.inl ⟨rfl,.inr rfl⟩⟩
 have t2:=s2.ext XH;have t3:=s3.ext XH;have t4:=s4.ext XH;have t5:=s5.ext XH;have t6:=s6.ext XH;have X:=X_;clear s1 s2 s3 s4 s5 s6 g_ S_ n_;obtain⟨pv,nv,cv,xv,e⟩:=O.form;cases e;refine cD 1 3 4 λT=> ?_
 refine W.loop (σ:=Nat) (λk tm h'=>Ext H h'/\tm.look 1= .ptr (some (h.next,0))/\tm.look 4= .int .i64 (k:Int)/\k<=x.paths.length/\∃vo,tm.look 3=vo/\OwnR h' H.next 1 vo (([x.hz]++(x.paths.take k).flatMap (λp=>[p.len])).map Flat.enc)) (λk=>x.paths.length-k) ?_ (s:=0)
  ⟨Ext.x,rfl,rfl,Nat.zero_le _,_,rfl,by rw[List.take_zero,List.flatMap_nil,List.append_nil];exact O⟩
 clear O X;rintro k tm h' ⟨X,w1,w4,hk,vo,w3,O⟩;obtain⟨pv,nv,cv,xv,e⟩:=O.form;cases e;obtain⟨T,rfl⟩:=cF w1 w3 w4;clear w1 w3 w4;by_cases c1:k<x.paths.length
 ·repeat refine W.g ?_
  have hfl:=bY (l:=x.paths) (f:=(λp=>[p.len])) (k:=k+1);rw[aM c1]at hfl;simp only[List.length_append,List.length_cons,List.length_nil]at hfl;rw[<-hpA]at hfl;have t2':=t2.ext X;refine cH λi_ o_ L_=> ?_;repeat (first|refine W.g ?_|refine W.n λh_ X_ n_ g_ S_=> ?_)
  have S_:SlG _ 1 _ (([x.paths[k].len]:List Int).map Flat.enc):=S_
  refine dK (H:=H) (z:=1) Ext.x (O.ext Ext.x) S_ rfl rfl rfl rfl rfl rfl rfl rfl rfl rfl rfl rfl (by
   simp only[List.length_map,List.length_append,List.length_cons,List.length_nil];show _*8<=_;omega) λv' h2 X3 O3=> ?_
  obtain⟨pv,nv,cv,xv,e⟩:=O3.form;cases e;repeat refine W.g ?_
  exact⟨k+1,aI c1,X3,rfl,rfl,c1,_,rfl,by rw[aM c1,<-List.append_assoc,aX];exact O3⟩
 repeat refine W.g ?_
 rw[show k=x.paths.length by omega,List.take_length,<-hpA]at O;refine cD 1 3 5 λT=> ?_
 refine W.loop (σ:=Nat) (λk tm h'=>Ext H h'/\tm.look 1= .ptr (some (h.next,0))/\tm.look 5= .int .i64 (k:Int)/\k<=x.doors.length/\∃vo,tm.look 3=vo/\OwnR h' H.next 1 vo ((([x.hz]++pA)++(x.doors.take k).flatMap (λd=>[d.len,d.times.frm,d.times.evr,d.times.len])).map Flat.enc)) (λk=>x.doors.length-k) ?_ (s:=0)
  ⟨Ext.x,rfl,rfl,Nat.zero_le _,_,rfl,by rw[List.take_zero,List.flatMap_nil,List.append_nil];exact O⟩
 clear O X;rintro k tm h' ⟨X,w1,w5,hk,vo,w3,O⟩;obtain⟨pv,nv,cv,xv,e⟩:=O.form;cases e;obtain⟨T,rfl⟩:=cF w1 w3 w5;clear w1 w3 w5;by_cases c1:k<x.doors.length
 ·repeat refine W.g ?_
  have hfl:=bY (l:=x.doors) (f:=(λd=>[d.len,d.times.frm,d.times.evr,d.times.len])) (k:=k+1);rw[aM c1]at hfl;simp only[List.length_append,List.length_cons,List.length_nil]at hfl;rw[<-hdA]at hfl;have ds:=aD ((XH.trans X).fr fr);repeat (first|refine aC ?_|refine W.e λr_ h_ ds_ s_=> ?_)
  refine aE t3 c1 rfl rfl rfl rfl rfl rfl rfl λi0 o0 L0=> ?_;repeat (first|refine aC ?_|refine W.e λr_ h_ ds_ s_=> ?_)
  refine aE t3 c1 rfl rfl rfl rfl rfl rfl rfl λi1 o1 L1=> ?_;repeat refine aC ?_
  refine pF (k:=4) L1 (by assumption) Ext.x rfl rfl rfl rfl rfl rfl rfl λr_ h_ ds_ s_=> ?_;repeat (first|refine aC ?_|refine W.e λr_ h_ ds_ s_=> ?_)
  refine aE t3 c1 rfl rfl rfl rfl rfl rfl rfl λi2 o2 L2=> ?_;repeat refine aC ?_
  refine pF (k:=5) L2 (by assumption) Ext.x rfl rfl rfl rfl rfl rfl rfl λr_ h_ ds_ s_=> ?_;repeat (first|refine aC ?_|refine W.e λr_ h_ ds_ s_=> ?_)
  refine aE t3 c1 rfl rfl rfl rfl rfl rfl rfl λi3 o3 L3=> ?_;repeat refine aC ?_
  refine pF (k:=6) L3 (by assumption) Ext.x rfl rfl rfl rfl rfl rfl rfl λr_ h_ ds_ s_=> ?_;refine bB ds_ rfl rfl rfl rfl λq2 g2 ds2 x2 n2 gg2=> ?_;have gg2:g2.get h_.next=some (.cells [.int .i64 x.doors[k].len,.int .i64 x.doors[k].times.frm,.int .i64 x.doors[k].times.evr,.int .i64 x.doors[k].times.len] false):=gg2;have S_:SlG g2 1 (.slice (some (h_.next,0)) 4 4 0) (([x.doors[k].len,x.doors[k].times.frm,x.doors[k].times.evr,x.doors[k].times.len]:List Int).map Flat.enc):=jA (by omega) gg2
  refine dC (H:=H) (z:=1) ds2.hri (X.trans ds2.x) (O.ext ds2.x) S_ rfl rfl rfl rfl rfl rfl rfl rfl rfl rfl rfl rfl rfl (by
   simp only[List.length_map,List.length_append,List.length_cons,List.length_nil];show _*8<=_;omega) λq3 v3 g3 hr3 X3 n3 k3 O3 _ i3=> ?_
  obtain⟨pv,nv,cv,xv,e⟩:=O3.form;cases e;repeat refine aC ?_
  repeat refine W.g ?_
  exact⟨k+1,aI c1,X3,rfl,rfl,c1,_,rfl,by rw[aM c1,<-List.append_assoc,aX];exact O3⟩
 repeat refine W.g ?_
 rw[show k=x.doors.length by omega,List.take_length,<-hdA]at O;refine cD 1 3 6 λT=> ?_
 refine W.loop (σ:=Nat) (λk tm h'=>Ext H h'/\tm.look 1= .ptr (some (h.next,0))/\tm.look 6= .int .i64 (k:Int)/\k<=x.routes.length/\∃vo,tm.look 3=vo/\OwnR h' H.next 1 vo (((([x.hz]++pA)++dA)++(x.routes.take k).flatMap (λr=>r.rides++r.stays)).map Flat.enc)) (λk=>x.routes.length-k) ?_ (s:=0)
  ⟨Ext.x,rfl,rfl,Nat.zero_le _,_,rfl,by rw[List.take_zero,List.flatMap_nil,List.append_nil];exact O⟩
 clear O X;rintro k tm h' ⟨X,w1,w6,hk,vo,w3,O⟩;obtain⟨pv,nv,cv,xv,e⟩:=O.form;cases e;obtain⟨T,rfl⟩:=cF w1 w3 w6;clear w1 w3 w6;by_cases c1:k<x.routes.length
 ·repeat refine W.g ?_
  have hfl:=bY (l:=x.routes) (f:=(λr=>r.rides++r.stays)) (k:=k+1);rw[aM c1]at hfl;simp only[List.length_append,List.length_cons,List.length_nil]at hfl;rw[<-hrA]at hfl;have dy:DY (λb=>b<H.next) h' [] []:=kT (λb hb=>Nat.lt_of_lt_of_le hb X.next);have hbx:h.next<H.next:=by omega
  have xn:=X.next;try refine aP ?_
  refine gY dy hbx (LH.ext X) rfl rfl rfl rfl rfl rfl rfl λr1 ha dy sa _=> ?_;try refine aP ?_
  refine dQ t4 c1 rfl rfl rfl rfl rfl rfl rfl λi1 o1 e1 L1 re=> ?_;have hlen:=Rp.len re;have hi1:i1<H.next:=by obtain⟨_,_,_,g,_⟩:=L1;exact g
  obtain⟨u1,u2,u3,rfl,y1,y2,y3⟩:=re;have Xa:=X.trans sa.ext;have na:=sa.next;try refine aP ?_
  refine gY (k:=2) dy hi1 (L1.ext Xa) rfl rfl rfl rfl rfl rfl rfl λr2 hb dy sb _=> ?_;have Xb:=Xa.trans sb.ext;try refine aP ?_
  refine aBf (H:=H) (z:=1) (l2:=x.routes[k].rides.map Flat.enc) dy Xb (O.ext (sa.ext.trans sb.ext)) ((aU Flat.iff y2).ext Xb) (λb hb2 hm=>by have:=OwnR.ids O b hm;omega) rfl rfl rfl rfl rfl rfl rfl rfl rfl rfl rfl rfl rfl (by
   simp only[List.length_map,List.length_append,List.length_cons,List.length_nil];show _*8<=_;omega) λr4 v4' hd dy Xd bd nd O3 _=> ?_
  obtain⟨pv,nv,cv,xv,e⟩:=O3.form;cases e;try refine aP ?_
  refine gY dy hbx (LH.ext Xd) rfl rfl rfl rfl rfl rfl rfl λr5 he dy se _=> ?_;have Xe:=Xd.trans se.ext;try refine aP ?_
  refine dQ t4 c1 rfl rfl rfl rfl rfl rfl rfl λi2 o2 e2 L2 re2=> ?_;have hlen2:=Rp.len re2;have hi2:i2<H.next:=by obtain⟨_,_,_,g,_⟩:=L2;exact g
  obtain⟨z1,z2,z3,rfl,y1,y2,y3⟩:=re2;try refine aP ?_
  refine gY (k:=3) dy hi2 (L2.ext Xe) rfl rfl rfl rfl rfl rfl rfl λr6 hf dy sf _=> ?_;have Xf:=Xe.trans sf.ext;try refine aP ?_
  refine wT (H:=H) (z:=1) (l2:=x.routes[k].stays.map Flat.enc) dy.drop Xf (O3.ext (se.ext.trans sf.ext)) ((aU Flat.iff y3).ext Xf) (λb hb2=>hb2.elim) rfl rfl rfl rfl rfl rfl rfl rfl rfl rfl rfl rfl rfl (by
   simp only[List.length_map,List.length_append,List.length_cons,List.length_nil];show _*8<=_;omega) λr7 v5' hg dy Xg bg ng O5 _=> ?_
  obtain⟨pv,nv,cv,xv,e⟩:=O5.form;cases e;try refine aP ?_
  repeat refine W.g ?_
  exact⟨k+1,aI c1,Xg,rfl,rfl,c1,_,rfl,by rw[aM c1,<-List.append_assoc,aX,show(x.routes[k].rides++x.routes[k].stays).map (Flat.enc:Int->List CV)=x.routes[k].rides.map Flat.enc++x.routes[k].stays.map Flat.enc from List.map_append];rw[List.append_assoc]at O5;exact O5⟩
 repeat refine W.g ?_
 rw[show k=x.routes.length by omega,List.take_length,<-hrA]at O;refine cD 1 3 7 λT=> ?_
 refine W.loop (σ:=Nat) (λk tm h'=>Ext H h'/\tm.look 1= .ptr (some (h.next,0))/\tm.look 7= .int .i64 (k:Int)/\k<=x.trips.length/\∃vo,tm.look 3=vo/\OwnR h' H.next 1 vo ((((([x.hz]++pA)++dA)++rA)++(x.trips.take k).flatMap (λt=>[t.frm,t.evr,t.untl])).map Flat.enc)) (λk=>x.trips.length-k) ?_ (s:=0)
  ⟨Ext.x,rfl,rfl,Nat.zero_le _,_,rfl,by rw[List.take_zero,List.flatMap_nil,List.append_nil];exact O⟩
 clear O X;rintro k tm h' ⟨X,w1,w7,hk,vo,w3,O⟩;obtain⟨pv,nv,cv,xv,e⟩:=O.form;cases e;obtain⟨T,rfl⟩:=cF w1 w3 w7;clear w1 w3 w7;by_cases c1:k<x.trips.length
 ·repeat refine W.g ?_
  have hfl:=bY (l:=x.trips) (f:=(λt=>[t.frm,t.evr,t.untl])) (k:=k+1);rw[aM c1]at hfl;simp only[List.length_append,List.length_cons,List.length_nil]at hfl;rw[<-htA]at hfl;have ds:=aD ((XH.trans X).fr fr);repeat (first|refine aC ?_|refine W.e λr_ h_ ds_ s_=> ?_)
  refine aE t5 c1 rfl rfl rfl rfl rfl rfl rfl λi0 o0 L0=> ?_;repeat (first|refine aC ?_|refine W.e λr_ h_ ds_ s_=> ?_)
  refine aE t5 c1 rfl rfl rfl rfl rfl rfl rfl λi1 o1 L1=> ?_;repeat (first|refine aC ?_|refine W.e λr_ h_ ds_ s_=> ?_)
  refine aE t5 c1 rfl rfl rfl rfl rfl rfl rfl λi2 o2 L2=> ?_;repeat (first|refine aC ?_|refine W.e λr_ h_ ds_ s_=> ?_)
  refine bB ds_ rfl rfl rfl rfl λq2 g2 ds2 x2 n2 gg2=> ?_;have gg2:g2.get h_.next=some (.cells [.int .i64 x.trips[k].frm,.int .i64 x.trips[k].evr,.int .i64 x.trips[k].untl] false):=gg2;have S_:SlG g2 1 (.slice (some (h_.next,0)) 3 3 0) (([x.trips[k].frm,x.trips[k].evr,x.trips[k].untl]:List Int).map Flat.enc):=jA (by omega) gg2
  refine dC (H:=H) (z:=1) ds2.hri (X.trans ds2.x) (O.ext ds2.x) S_ rfl rfl rfl rfl rfl rfl rfl rfl rfl rfl rfl rfl rfl (by
   simp only[List.length_map,List.length_append,List.length_cons,List.length_nil];show _*8<=_;omega) λq3 v3 g3 hr3 X3 n3 k3 O3 _ i3=> ?_
  obtain⟨pv,nv,cv,xv,e⟩:=O3.form;cases e;repeat refine aC ?_
  repeat refine W.g ?_
  exact⟨k+1,aI c1,X3,rfl,rfl,c1,_,rfl,by rw[aM c1,<-List.append_assoc,aX];exact O3⟩
 repeat refine W.g ?_
 rw[show k=x.trips.length by omega,List.take_length,<-htA]at O;refine cD 1 3 8 λT=> ?_
 refine W.loop (σ:=Nat) (λk tm h'=>Ext H h'/\tm.look 1= .ptr (some (h.next,0))/\tm.look 8= .int .i64 (k:Int)/\k<=x.hazards.length/\∃vo,tm.look 3=vo/\OwnR h' H.next 1 vo (((((([x.hz]++pA)++dA)++rA)++tA)++(x.hazards.take k).flatMap (λh=>[h.times.frm,h.times.evr,h.times.len])).map Flat.enc)) (λk=>x.hazards.length-k) ?_ (s:=0)
  ⟨Ext.x,rfl,rfl,Nat.zero_le _,_,rfl,by rw[List.take_zero,List.flatMap_nil,List.append_nil];exact O⟩
 clear O X;rintro k tm h' ⟨X,w1,w8,hk,vo,w3,O⟩;obtain⟨pv,nv,cv,xv,e⟩:=O.form;cases e;obtain⟨T,rfl⟩:=cF w1 w3 w8;clear w1 w3 w8;by_cases c1:k<x.hazards.length
 ·repeat refine W.g ?_
  have hfl:=bY (l:=x.hazards) (f:=(λh=>[h.times.frm,h.times.evr,h.times.len])) (k:=k+1);rw[aM c1]at hfl;simp only[List.length_append,List.length_cons,List.length_nil]at hfl;rw[<-hhA]at hfl;have ds:=aD ((XH.trans X).fr fr);repeat (first|refine aC ?_|refine W.e λr_ h_ ds_ s_=> ?_)
  refine aE t6 c1 rfl rfl rfl rfl rfl rfl rfl λi0 o0 L0=> ?_;repeat refine aC ?_
  refine pF (k:=2) L0 (by assumption) Ext.x rfl rfl rfl rfl rfl rfl rfl λr_ h_ ds_ s_=> ?_;repeat (first|refine aC ?_|refine W.e λr_ h_ ds_ s_=> ?_)
  refine aE t6 c1 rfl rfl rfl rfl rfl rfl rfl λi1 o1 L1=> ?_;repeat refine aC ?_
  refine pF (k:=3) L1 (by assumption) Ext.x rfl rfl rfl rfl rfl rfl rfl λr_ h_ ds_ s_=> ?_;repeat (first|refine aC ?_|refine W.e λr_ h_ ds_ s_=> ?_)
  refine aE t6 c1 rfl rfl rfl rfl rfl rfl rfl λi2 o2 L2=> ?_;repeat refine aC ?_
  refine pF (k:=4) L2 (by assumption) Ext.x rfl rfl rfl rfl rfl rfl rfl λr_ h_ ds_ s_=> ?_;refine bB ds_ rfl rfl rfl rfl λq2 g2 ds2 x2 n2 gg2=> ?_;have gg2:g2.get h_.next=some (.cells [.int .i64 x.hazards[k].times.frm,.int .i64 x.hazards[k].times.evr,.int .i64 x.hazards[k].times.len] false):=gg2;have S_:SlG g2 1 (.slice (some (h_.next,0)) 3 3 0) (([x.hazards[k].times.frm,x.hazards[k].times.evr,x.hazards[k].times.len]:List Int).map Flat.enc):=jA (by omega) gg2
  refine dC (H:=H) (z:=1) ds2.hri (X.trans ds2.x) (O.ext ds2.x) S_ rfl rfl rfl rfl rfl rfl rfl rfl rfl rfl rfl rfl rfl (by
   simp only[List.length_map,List.length_append,List.length_cons,List.length_nil];show _*8<=_;omega) λq3 v3 g3 hr3 X3 n3 k3 O3 _ i3=> ?_
  obtain⟨pv,nv,cv,xv,e⟩:=O3.form;cases e;repeat refine aC ?_
  repeat refine W.g ?_
  exact⟨k+1,aI c1,X3,rfl,rfl,c1,_,rfl,by rw[aM c1,<-List.append_assoc,aX];exact O3⟩
 repeat refine W.g ?_
 rw[show k=x.hazards.length by omega,List.take_length,<-hhA]at O;exact q _ _ (XH.trans X) (bZ Flat.iff O.sl)
end
end Go.Proofs.YtfheibkikpefkaaGreatDoor

namespace Go.Proofs.YtfheibkikpefkaaGreatDoor
open Go Go.CM Go.CM.Tt
noncomputable section
set_option maxHeartbeats 16000000
theorem xC {h:Heap} {tm:Tm} {Q:R->Prop} {cs:List CV} {x:SheetD} (r:Rp.R h cs x) (fr:Fresh h) (sm:x.slim) (q:∀h',Ext h h'->Q (.val (.int .i64 x.err) h')):W E1 (.call (.fn 101 [] []) [.agg cs]) tm h Q:=by
 have r0:=r;obtain⟨v1,v2,v3,v4,v5,v6,rfl,s1,s2,s3,s4,s5,s6⟩:=r;refine W.fn (s:=aB Tryz.f101) rfl rfl rfl rfl ?_;repeat (refine W.seq ?_)
 refine W.region ?_;refine W.box rfl rfl rfl λH XH nH gH LH=> ?_;by_cases c1:256<x.stops.length
 ·repeat refine W.g ?_
  have e:x.err=3:=if_pos (λg=>by obtain⟨g1,g2,g3,g4,g5,g6⟩:=g;omega);rw[e]at q;exact q _ XH
 by_cases c2:1024<x.paths.length
 ·repeat refine W.g ?_
  have e:x.err=3:=if_pos (λg=>by obtain⟨g1,g2,g3,g4,g5,g6⟩:=g;omega);rw[e]at q;exact q _ XH
 by_cases c3:256<x.doors.length
 ·repeat refine W.g ?_
  have e:x.err=3:=if_pos (λg=>by obtain⟨g1,g2,g3,g4,g5,g6⟩:=g;omega);rw[e]at q;exact q _ XH
 by_cases c4:256<x.routes.length
 ·repeat refine W.g ?_
  have e:x.err=3:=if_pos (λg=>by obtain⟨g1,g2,g3,g4,g5,g6⟩:=g;omega);rw[e]at q;exact q _ XH
 by_cases c5:1024<x.trips.length
 ·repeat refine W.g ?_
  have e:x.err=3:=if_pos (λg=>by obtain⟨g1,g2,g3,g4,g5,g6⟩:=g;omega);rw[e]at q;exact q _ XH
 by_cases c6:256<x.hazards.length
 ·repeat refine W.g ?_
  have e:x.err=3:=if_pos (λg=>by obtain⟨g1,g2,g3,g4,g5,g6⟩:=g;omega);rw[e]at q;exact q _ XH
 have few:x.few:=⟨by omega,by omega,by omega,by omega,by omega,by omega⟩;repeat refine W.g ?_
 refine W.call rfl rfl rfl (aKn (Rp.ext XH r0) (XH.fr fr) few (fU few sm) λh1 va X1 sa=> ?_);have la:=fU few sm;refine mA 1 45 λT=> ?_;repeat refine W.g ?_
 obtain⟨l,hl⟩:∃l,l=x.all:=⟨_,rfl⟩;rw[<-hl]at sa la;refine W.loop (σ:=Nat) (λk tm h'=>Ext h1 h'/\tm.look 1= .ptr (some (h.next,0))/\tm.look 3=va/\tm.look 4= .int .i64 (k:Int)/\k<=l.length/\∀j a,j<k->l[j]? =some a->fC a) (λk=>l.length-k) ?_ (s:=0) ⟨Ext.refl _,rfl,rfl,rfl,Nat.zero_le _,λj a hj=>by omega⟩;rintro k tm h2 ⟨X2,w1,w3,w4,hk,hok⟩;obtain⟨T,rfl⟩:=cF w1 w3 w4;clear w1 w3 w4;have sa2:=sa.ext X2;by_cases d1:k<l.length
 ·repeat refine W.g ?_
  refine cH λi_ o_ L_=> ?_;repeat refine W.g ?_
  refine W.call rfl rfl rfl (aPc _ λh3 b X3 hb=> ?_);cases b
  ·repeat refine W.g ?_
   have e:x.err=7:=by
    unfold SheetD.err;rw[if_neg (λg=>g few),if_pos (λg=>by cases hb.2 (g _ (by rw[<-hl];exact List.getElem_mem d1)))]
   rw[e]at q;exact q _ Ext.x
  ·repeat refine W.g ?_
   refine⟨k+1,aI d1,Ext.x,rfl,rfl,rfl,d1,λj a hj ha=> ?_⟩;by_cases e:j=k
   ·subst e
    rw[List.getElem?_eq_getElem d1]at ha;cases ha;exact hb.1 rfl
   ·exact hok j a (by omega) ha
 have okN:∀s∈x.all,fC s:=λs hs=>by
  rw[<-hl]at hs;obtain⟨j,hj⟩:=List.getElem?_of_mem hs;have:=(List.getElem?_eq_some_iff.1 hj).1;exact hok j s (by omega) hj
 clear hok hk;repeat refine W.g ?_
 have Y2:=X1.trans X2;refine W.call rfl rfl rfl (aEe (Rp.ext (XH.trans Y2) r0) ((XH.trans Y2).fr fr) few (eY few sm) λh3 vn X3 sn=> ?_);have ln:=eY few sm;refine mA 1 59 λT=> ?_;repeat refine W.g ?_
 clear hl sa sa2 la d1;obtain⟨l,hl⟩:∃l,l=x.nums:=⟨_,rfl⟩;rw[<-hl]at sn ln;refine W.loop (σ:=Nat) (λk tm h'=>Ext h3 h'/\tm.look 1= .ptr (some (h.next,0))/\tm.look 5=vn/\tm.look 6= .int .i64 (k:Int)/\k<=l.length/\∀j a,j<k->l[j]? =some a->TickOk a) (λk=>l.length-k) ?_ (s:=0) ⟨Ext.refl _,rfl,rfl,rfl,Nat.zero_le _,λj a hj=>by omega⟩;rintro k tm h4 ⟨X4,w1,w5,w6,hk,hok⟩;obtain⟨T,rfl⟩:=cF w1 w5 w6;clear w1 w5 w6;have sn2:=sn.ext X4;by_cases d1:k<l.length
 ·repeat refine W.g ?_
  refine cH λi_ o_ L_=> ?_;repeat refine W.g ?_
  refine W.call rfl rfl rfl (jE _ (λht=> ?_) λhn=> ?_)
  ·repeat refine W.g ?_
   refine⟨k+1,aI d1,X4,rfl,rfl,rfl,d1,λj a hj ha=> ?_⟩;by_cases e:j=k
   ·subst e
    rw[List.getElem?_eq_getElem d1]at ha;cases ha;exact ht
   ·exact hok j a (by omega) ha
  ·repeat refine W.g ?_
   have e:x.err=9:=by
    unfold SheetD.err;rw[if_neg (λg=>g few),if_neg (λg=>g okN),if_pos (λg=>hn (g _ (by rw[<-hl];exact List.getElem_mem d1)))]
   rw[e]at q;exact q _ Ext.x
 have okT:∀n∈x.nums,TickOk n:=λs hs=>by
  rw[<-hl]at hs;obtain⟨j,hj⟩:=List.getElem?_of_mem hs;have:=(List.getElem?_eq_some_iff.1 hj).1;exact hok j s (by omega) hj
 repeat refine W.g ?_
 clear hok hk hl sn sn2 ln d1;have few4:=few.2.2.2.1;have Z4:Ext H h4:=Y2.trans (X3.trans X4);have Y4:=XH.trans Z4;have u4:=s4.ext Y4;refine mA 1 7 λT=> ?_;refine W.loop (σ:=Nat) (λk tm h'=>Ext h4 h'/\tm.look 1= .ptr (some (h.next,0))/\tm.look 7= .int .i64 (k:Int)/\k<=x.routes.length/\∀j a,j<k->x.routes[j]? =some a->a.ok) (λk=>x.routes.length-k) ?_ (s:=0) ⟨Ext.refl _,rfl,rfl,Nat.zero_le _,λj a hj=>by omega⟩;rintro k tm h5 ⟨X5,w1,w7,hk,hok⟩;obtain⟨T,rfl⟩:=aDp w1 w7;clear w1 w7;have u5:=u4.ext X5;by_cases d1:k<x.routes.length
 ·repeat refine W.g ?_
  refine dI u5 d1 rfl rfl rfl rfl rfl rfl rfl λi_ o_ e L_ r_=> ?_;obtain⟨m1,m2,m3⟩:=sm _ (List.getElem_mem d1);have hat:x.routes[k]? =some x.routes[k]:=List.getElem?_eq_getElem d1
  have bad:¬x.routes[k].ok->x.err=2:=λhb=>by
   unfold SheetD.err;rw[if_neg (λg=>g few),if_neg (λg=>g okN),if_neg (λg=>g okT),if_pos (λg=>hb (g _ (List.getElem_mem d1)))]
  obtain⟨z1,z2,z3,rfl,y1,y2,y3⟩:=r_;by_cases b1:x.routes[k].stops.length<2
  ·repeat (first|refine W.g ?_|refine W.m λh_ X_ n_ g_ L_=> ?_)
   rw[bad λg=>by have:=g.1;omega]at q;exact q _ Ext.x
  by_cases b2:32<x.routes[k].stops.length
  ·repeat (first|refine W.g ?_|refine W.m λh_ X_ n_ g_ L_=> ?_)
   rw[bad λg=>by have:=g.2.1;omega]at q;exact q _ Ext.x
  by_cases b3:x.routes[k].rides.length+1=x.routes[k].stops.length
  ·by_cases b4:x.routes[k].stays.length+2=x.routes[k].stops.length
   ·repeat (first|refine W.g ?_|refine W.m λh_ X_ n_ g_ L_=> ?_)
    refine⟨k+1,aI d1,Ext.x,rfl,rfl,d1,λj a hj ha=> ?_⟩;by_cases e:j=k
    ·subst e
     rw[hat]at ha;cases ha;exact⟨by omega,by omega,b3,b4⟩
    ·exact hok j a (by omega) ha
   ·repeat (first|refine W.g ?_|refine W.m λh_ X_ n_ g_ L_=> ?_)
    rw[bad λg=>b4 g.2.2.2]at q;exact q _ Ext.x
  ·repeat (first|refine W.g ?_|refine W.m λh_ X_ n_ g_ L_=> ?_)
   rw[bad λg=>b3 g.2.2.1]at q;exact q _ Ext.x
 have okR:∀r∈x.routes,r.ok:=λs hs=>by
  obtain⟨j,hj⟩:=List.getElem?_of_mem hs;have:=(List.getElem?_eq_some_iff.1 hj).1;exact hok j s (by omega) hj
 repeat refine W.g ?_
 have e:x.err=0:=by
  unfold SheetD.err;rw[if_neg (λg=>g few),if_neg (λg=>g okN),if_neg (λg=>g okT),if_neg (λg=>g okR)]
 rw[e]at q;exact q _ Ext.x
end
end Go.Proofs.YtfheibkikpefkaaGreatDoor
