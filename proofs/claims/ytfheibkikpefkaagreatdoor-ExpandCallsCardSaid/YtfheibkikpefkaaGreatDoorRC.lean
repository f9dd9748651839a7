/- The document's answer: all names of a sheet. No condition but that memory beyond the next number is empty. -/
import Derived.Test.YtfheibkikpefkaaGreatDoorXU
import Derived.Test.YtfheibkikpefkaaGreatDoorRB
import Derived.Test.YtfheibkikpefkaaGreatDoorXZ
import Derived.Test.YtfheibkikpefkaaGreatDoorZB
set_option linter.unusedVariables false
set_option linter.unusedSimpArgs false
namespace Go.Proofs.YtfheibkikpefkaaGreatDoor
open Go Go.CM Go.CM.Tt
noncomputable section
set_option maxHeartbeats 16000000
theorem aKn {h:Heap} {tm:Tm} {Q:R->Prop} {cs:List CV} {x:SheetD} (r:Rp.R h cs x) (fr:Fresh h) (few:x.few) (hl:x.all.length<=1073741824)
  (q:∀h' v',Ext h h'->Sl h' v' x.all->Q (.val v' h')):W E1 (.call (.fn 131 [] []) [.agg cs]) tm h Q:=by
 obtain⟨v1,v2,v3,v4,v5,v6,rfl,s1,s2,s3,s4,s5,s6⟩:=r;obtain⟨f1,f2,f3,f4,f5,f6⟩:=few;refine W.fn (s:=aB Tryz.f131) rfl rfl rfl rfl ?_;unfold SheetD.all at hl q;obtain⟨pA,hpA⟩:∃pA,pA=x.paths.flatMap λp=>[p.name,p.a,p.b]:=⟨_,rfl⟩;obtain⟨dA,hdA⟩:∃dA,dA=x.doors.flatMap λd=>[d.name,d.a,d.b]:=⟨_,rfl⟩;obtain⟨rA,hrA⟩:∃rA,rA=x.routes.flatMap λr=>r.name::r.stops:=⟨_,rfl⟩;obtain⟨tA,htA⟩:∃tA,tA=x.trips.flatMap λt=>[t.name,t.route]:=⟨_,rfl⟩;obtain⟨hA,hhA⟩:∃hA,hA=x.hazards.flatMap λh=>[h.name,h.on]:=⟨_,rfl⟩;rw[<-hpA,<-hdA,<-hrA,<-htA,<-hhA]at hl q;simp only[List.length_append]at hl;repeat (refine W.seq ?_)
 refine W.region ?_;refine W.box rfl rfl rfl λH XH nH gH LH=> ?_;repeat (first|refine W.g ?_|refine W.n λh_ X_ n_ g_ S_=> ?_)
 have sg:=(aU Flat.iff s1).ext (XH.trans X_);refine dK X_ (z:=1) (l:=[]) (l2:=x.stops.map Flat.enc) (.inr ⟨H.next,0,false,rfl,Nat.le_refl _,by omega,g_,λe he=>(by cases he),.inl ⟨rfl,.inl rfl⟩⟩) sg rfl rfl rfl rfl rfl rfl rfl rfl rfl rfl rfl rfl (by rw[List.length_map];show(0+_)*16<=_;omega) λvo h1 X1 O=> ?_;rw[List.nil_append]at O;have t2:=s2.ext XH;have t3:=s3.ext XH;have t4:=s4.ext XH;have t5:=s5.ext XH;have t6:=s6.ext XH;clear s1 s2 s3 s4 s5 s6 sg X_ g_ S_ n_;obtain⟨pv,nv,cv,xv,e⟩:=O.form;cases e;have X:=X1;repeat refine W.g ?_
 refine cD 1 3 4 λT=> ?_
 refine W.loop (σ:=Nat) (λk tm h'=>Ext H h'/\tm.look 1= .ptr (some (h.next,0))/\tm.look 4= .int .i64 (k:Int)/\k<=x.paths.length/\∃vo,tm.look 3=vo/\OwnR h' H.next 1 vo ((x.stops++(x.paths.take k).flatMap (λp=>[p.name,p.a,p.b])).map Flat.enc)) (λk=>x.paths.length-k) ?_ (s:=0)
  ⟨Ext.x,rfl,rfl,Nat.zero_le _,_,rfl,by rw[List.take_zero,List.flatMap_nil,List.append_nil];exact O⟩
 clear O X;rintro k tm h' ⟨X,w1,w4,hk,vo,w3,O⟩;obtain⟨pv,nv,cv,xv,e⟩:=O.form;cases e;obtain⟨T,rfl⟩:=cF w1 w3 w4;clear w1 w3 w4;by_cases c1:k<x.paths.length
 ·repeat refine W.g ?_
  have hfl:=bY (l:=x.paths) (f:=(λp=>[p.name,p.a,p.b])) (k:=k+1);rw[aM c1]at hfl;simp only[List.length_append,List.length_cons,List.length_nil]at hfl;rw[<-hpA]at hfl;have ds:=aD ((XH.trans X).fr fr);repeat (first|refine aC ?_|refine W.e λr_ h_ ds_ s_=> ?_)
  refine aE t2 c1 rfl rfl rfl rfl rfl rfl rfl λi0 o0 L0=> ?_;repeat (first|refine aC ?_|refine W.e λr_ h_ ds_ s_=> ?_)
  refine aE t2 c1 rfl rfl rfl rfl rfl rfl rfl λi1 o1 L1=> ?_;repeat (first|refine aC ?_|refine W.e λr_ h_ ds_ s_=> ?_)
  refine aE t2 c1 rfl rfl rfl rfl rfl rfl rfl λi2 o2 L2=> ?_;repeat (first|refine aC ?_|refine W.e λr_ h_ ds_ s_=> ?_)
  refine bB ds_ rfl rfl rfl rfl λq2 g2 ds2 x2 n2 gg2=> ?_;have gg2:g2.get h_.next=some (.cells [.str x.paths[k].name,.str x.paths[k].a,.str x.paths[k].b] false):=gg2;have S_:SlG g2 1 (.slice (some (h_.next,0)) 3 3 0) (([x.paths[k].name,x.paths[k].a,x.paths[k].b]:List Str).map Flat.enc):=jA (by omega) gg2
  refine dC (H:=H) (z:=1) ds2.hri (X.trans ds2.x) (O.ext ds2.x) S_ rfl rfl rfl rfl rfl rfl rfl rfl rfl rfl rfl rfl rfl (by
   simp only[List.length_map,List.length_append,List.length_cons,List.length_nil];show _*16<=_;omega) λq3 v3 g3 hr3 X3 n3 k3 O3 _ i3=> ?_
  obtain⟨pv,nv,cv,xv,e⟩:=O3.form;cases e;repeat refine aC ?_
  repeat refine W.g ?_
  exact⟨k+1,aI c1,X3,rfl,rfl,c1,_,rfl,by rw[aM c1,<-List.append_assoc,aX];exact O3⟩
 repeat refine W.g ?_
 rw[show k=x.paths.length by omega,List.take_length,<-hpA]at O;refine cD 1 3 5 λT=> ?_
 refine W.loop (σ:=Nat) (λk tm h'=>Ext H h'/\tm.look 1= .ptr (some (h.next,0))/\tm.look 5= .int .i64 (k:Int)/\k<=x.doors.length/\∃vo,tm.look 3=vo/\OwnR h' H.next 1 vo (((x.stops++pA)++(x.doors.take k).flatMap (λd=>[d.name,d.a,d.b])).map Flat.enc)) (λk=>x.doors.length-k) ?_ (s:=0)
  ⟨Ext.x,rfl,rfl,Nat.zero_le _,_,rfl,by rw[List.take_zero,List.flatMap_nil,List.append_nil];exact O⟩
 clear O X;rintro k tm h' ⟨X,w1,w5,hk,vo,w3,O⟩;obtain⟨pv,nv,cv,xv,e⟩:=O.form;cases e;obtain⟨T,rfl⟩:=cF w1 w3 w5;clear w1 w3 w5;by_cases c1:k<x.doors.length
 ·repeat refine W.g ?_
  have hfl:=bY (l:=x.doors) (f:=(λd=>[d.name,d.a,d.b])) (k:=k+1);rw[aM c1]at hfl;simp only[List.length_append,List.length_cons,List.length_nil]at hfl;rw[<-hdA]at hfl;have ds:=aD ((XH.trans X).fr fr);repeat (first|refine aC ?_|refine W.e λr_ h_ ds_ s_=> ?_)
  refine aE t3 c1 rfl rfl rfl rfl rfl rfl rfl λi0 o0 L0=> ?_;repeat (first|refine aC ?_|refine W.e λr_ h_ ds_ s_=> ?_)
  refine aE t3 c1 rfl rfl rfl rfl rfl rfl rfl λi1 o1 L1=> ?_;repeat (first|refine aC ?_|refine W.e λr_ h_ ds_ s_=> ?_)
  refine aE t3 c1 rfl rfl rfl rfl rfl rfl rfl λi2 o2 L2=> ?_;repeat (first|refine aC ?_|refine W.e λr_ h_ ds_ s_=> ?_)
  refine bB ds_ rfl rfl rfl rfl λq2 g2 ds2 x2 n2 gg2=> ?_;have gg2:g2.get h_.next=some (.cells [.str x.doors[k].name,.str x.doors[k].a,.str x.doors[k].b] false):=gg2;have S_:SlG g2 1 (.slice (some (h_.next,0)) 3 3 0) (([x.doors[k].name,x.doors[k].a,x.doors[k].b]:List Str).map Flat.enc):=jA (by omega) gg2
  refine dC (H:=H) (z:=1) ds2.hri (X.trans ds2.x) (O.ext ds2.x) S_ rfl rfl rfl rfl rfl rfl rfl rfl rfl rfl rfl rfl rfl (by
   simp only[List.length_map,List.length_append,List.length_cons,List.length_nil];show _*16<=_;omega) λq3 v3 g3 hr3 X3 n3 k3 O3 _ i3=> ?_
  obtain⟨pv,nv,cv,xv,e⟩:=O3.form;cases e;repeat refine aC ?_
  repeat refine W.g ?_
  exact⟨k+1,aI c1,X3,rfl,rfl,c1,_,rfl,by rw[aM c1,<-List.append_assoc,aX];exact O3⟩
 repeat refine W.g ?_
 rw[show k=x.doors.length by omega,List.take_length,<-hdA]at O;refine cD 1 3 6 λT=> ?_
 refine W.loop (σ:=Nat) (λk tm h'=>Ext H h'/\tm.look 1= .ptr (some (h.next,0))/\tm.look 6= .int .i64 (k:Int)/\k<=x.routes.length/\∃vo,tm.look 3=vo/\OwnR h' H.next 1 vo ((((x.stops++pA)++dA)++(x.routes.take k).flatMap (λr=>r.name::r.stops)).map Flat.enc)) (λk=>x.routes.length-k) ?_ (s:=0)
  ⟨Ext.x,rfl,rfl,Nat.zero_le _,_,rfl,by rw[List.take_zero,List.flatMap_nil,List.append_nil];exact O⟩
 clear O X;rintro k tm h' ⟨X,w1,w6,hk,vo,w3,O⟩;obtain⟨pv,nv,cv,xv,e⟩:=O.form;cases e;obtain⟨T,rfl⟩:=cF w1 w3 w6;clear w1 w3 w6;by_cases c1:k<x.routes.length
 ·repeat refine W.g ?_
  have hfl:=bY (l:=x.routes) (f:=(λr=>r.name::r.stops)) (k:=k+1);rw[aM c1]at hfl;simp only[List.length_append,List.length_cons,List.length_nil]at hfl;rw[<-hrA]at hfl;have dy:DY (λb=>b<H.next) h' [] []:=kT (λb hb=>Nat.lt_of_lt_of_le hb X.next);have hbx:h.next<H.next:=by omega
  have xn:=X.next;try refine aP ?_
  refine gY dy hbx (LH.ext X) rfl rfl rfl rfl rfl rfl rfl λr1 ha dy sa _=> ?_;try refine aP ?_
  refine dQ t4 c1 rfl rfl rfl rfl rfl rfl rfl λi1 o1 e1 L1 re=> ?_;have hlen:=Rp.len re;have hi1:i1<H.next:=by obtain⟨_,_,_,g,_⟩:=L1;exact g
  obtain⟨u1,u2,u3,rfl,y1,y2,y3⟩:=re;have Xa:=X.trans sa.ext;have na:=sa.next;try refine aP ?_
  refine gY (k:=0) dy hi1 (L1.ext Xa) rfl rfl rfl rfl rfl rfl rfl λr2 hb dy sb _=> ?_;have nb:=sb.next;try refine aP ?_
  refine wS dy rfl rfl rfl rfl λr3 hc dy xc nc gc=> ?_;have gc:hc.get hb.next=some (.cells (Flat.enc x.routes[k].name) false):=gc;have Xc:=(sa.ext.trans sb.ext).trans xc;try refine aP ?_
  refine wT (H:=H) (z:=1) (l2:=[Flat.enc x.routes[k].name]) dy (X.trans Xc) (O.ext Xc) (SlG.one (by omega) gc) (λb hb2=> ?_) rfl rfl rfl rfl rfl rfl rfl rfl rfl rfl rfl rfl rfl (by
   simp only[List.length_map,List.length_append,List.length_cons,List.length_nil];show _*16<=_;omega) λr4 v4' hd dy Xd bd nd O3 _=> ?_
  ·intro hm
   rcases List.mem_append.1 hm with hm|hm
   ·have:=OwnR.ids O b hm;omega
   ·have:b=hb.next:=by simpa[idOf]using hm
    omega
  obtain⟨pv,nv,cv,xv,e⟩:=O3.form;cases e;try refine aP ?_
  refine gY dy hbx (LH.ext Xd) rfl rfl rfl rfl rfl rfl rfl λr5 he dy se _=> ?_;have Xe:=Xd.trans se.ext;try refine aP ?_
  refine dQ t4 c1 rfl rfl rfl rfl rfl rfl rfl λi2 o2 e2 L2 re2=> ?_;have hlen2:=Rp.len re2;have hi2:i2<H.next:=by obtain⟨_,_,_,g,_⟩:=L2;exact g
  obtain⟨z1,z2,z3,rfl,y1,y2,y3⟩:=re2;try refine aP ?_
  refine gY (k:=1) dy hi2 (L2.ext Xe) rfl rfl rfl rfl rfl rfl rfl λr6 hf dy sf _=> ?_;have Xf:=Xe.trans sf.ext;try refine aP ?_
  refine wT (H:=H) (z:=1) (l2:=x.routes[k].stops.map Flat.enc) dy.drop Xf (O3.ext (se.ext.trans sf.ext)) ((aU Flat.iff y1).ext Xf) (λb hb2=>hb2.elim) rfl rfl rfl rfl rfl rfl rfl rfl rfl rfl rfl rfl rfl (by
   simp only[List.length_map,List.length_append,List.length_cons,List.length_nil];show _*16<=_;omega) λr7 v5' hg dy Xg bg ng O5 _=> ?_
  obtain⟨pv,nv,cv,xv,e⟩:=O5.form;cases e;try refine aP ?_
  repeat refine W.g ?_
  exact⟨k+1,aI c1,Xg,rfl,rfl,c1,_,rfl,by rw[aM c1,<-List.append_assoc,aX,List.map_cons];rw[List.append_assoc]at O5;exact O5⟩
 repeat refine W.g ?_
 rw[show k=x.routes.length by omega,List.take_length,<-hrA]at O;refine cD 1 3 7 λT=> ?_
 refine W.loop (σ:=Nat) (λk tm h'=>Ext H h'/\tm.look 1= .ptr (some (h.next,0))/\tm.look 7= .int .i64 (k:Int)/\k<=x.trips.length/\∃vo,tm.look 3=vo/\OwnR h' H.next 1 vo (((((x.stops++pA)++dA)++rA)++(x.trips.take k).flatMap (λt=>[t.name,t.route])).map Flat.enc)) (λk=>x.trips.length-k) ?_ (s:=0)
  ⟨Ext.x,rfl,rfl,Nat.zero_le _,_,rfl,by rw[List.take_zero,List.flatMap_nil,List.append_nil];exact O⟩
 clear O X;rintro k tm h' ⟨X,w1,w7,hk,vo,w3,O⟩;obtain⟨pv,nv,cv,xv,e⟩:=O.form;cases e;obtain⟨T,rfl⟩:=cF w1 w3 w7;clear w1 w3 w7;by_cases c1:k<x.trips.length
 ·repeat refine W.g ?_
  have hfl:=bY (l:=x.trips) (f:=(λt=>[t.name,t.route])) (k:=k+1);rw[aM c1]at hfl;simp only[List.length_append,List.length_cons,List.length_nil]at hfl;rw[<-htA]at hfl;have ds:=aD ((XH.trans X).fr fr);repeat (first|refine aC ?_|refine W.e λr_ h_ ds_ s_=> ?_)
  refine aE t5 c1 rfl rfl rfl rfl rfl rfl rfl λi0 o0 L0=> ?_;repeat (first|refine aC ?_|refine W.e λr_ h_ ds_ s_=> ?_)
  refine aE t5 c1 rfl rfl rfl rfl rfl rfl rfl λi1 o1 L1=> ?_;repeat (first|refine aC ?_|refine W.e λr_ h_ ds_ s_=> ?_)
  refine bB ds_ rfl rfl rfl rfl λq2 g2 ds2 x2 n2 gg2=> ?_;have gg2:g2.get h_.next=some (.cells [.str x.trips[k].name,.str x.trips[k].route] false):=gg2;have S_:SlG g2 1 (.slice (some (h_.next,0)) 2 2 0) (([x.trips[k].name,x.trips[k].route]:List Str).map Flat.enc):=jA (by omega) gg2
  refine dC (H:=H) (z:=1) ds2.hri (X.trans ds2.x) (O.ext ds2.x) S_ rfl rfl rfl rfl rfl rfl rfl rfl rfl rfl rfl rfl rfl (by
   simp only[List.length_map,List.length_append,List.length_cons,List.length_nil];show _*16<=_;omega) λq3 v3 g3 hr3 X3 n3 k3 O3 _ i3=> ?_
  obtain⟨pv,nv,cv,xv,e⟩:=O3.form;cases e;repeat refine aC ?_
  repeat refine W.g ?_
  exact⟨k+1,aI c1,X3,rfl,rfl,c1,_,rfl,by rw[aM c1,<-List.append_assoc,aX];exact O3⟩
 repeat refine W.g ?_
 rw[show k=x.trips.length by omega,List.take_length,<-htA]at O;refine cD 1 3 8 λT=> ?_
 refine W.loop (σ:=Nat) (λk tm h'=>Ext H h'/\tm.look 1= .ptr (some (h.next,0))/\tm.look 8= .int .i64 (k:Int)/\k<=x.hazards.length/\∃vo,tm.look 3=vo/\OwnR h' H.next 1 vo ((((((x.stops++pA)++dA)++rA)++tA)++(x.hazards.take k).flatMap (λh=>[h.name,h.on])).map Flat.enc)) (λk=>x.hazards.length-k) ?_ (s:=0)
  ⟨Ext.x,rfl,rfl,Nat.zero_le _,_,rfl,by rw[List.take_zero,List.flatMap_nil,List.append_nil];exact O⟩
 clear O X;rintro k tm h' ⟨X,w1,w8,hk,vo,w3,O⟩;obtain⟨pv,nv,cv,xv,e⟩:=O.form;cases e;obtain⟨T,rfl⟩:=cF w1 w3 w8;clear w1 w3 w8;by_cases c1:k<x.hazards.length
 ·repeat refine W.g ?_
  have hfl:=bY (l:=x.hazards) (f:=(λh=>[h.name,h.on])) (k:=k+1);rw[aM c1]at hfl;simp only[List.length_append,List.length_cons,List.length_nil]at hfl;rw[<-hhA]at hfl;have ds:=aD ((XH.trans X).fr fr);repeat (first|refine aC ?_|refine W.e λr_ h_ ds_ s_=> ?_)
  refine aE t6 c1 rfl rfl rfl rfl rfl rfl rfl λi0 o0 L0=> ?_;repeat (first|refine aC ?_|refine W.e λr_ h_ ds_ s_=> ?_)
  refine aE t6 c1 rfl rfl rfl rfl rfl rfl rfl λi1 o1 L1=> ?_;repeat (first|refine aC ?_|refine W.e λr_ h_ ds_ s_=> ?_)
  refine bB ds_ rfl rfl rfl rfl λq2 g2 ds2 x2 n2 gg2=> ?_;have gg2:g2.get h_.next=some (.cells [.str x.hazards[k].name,.str x.hazards[k].on] false):=gg2;have S_:SlG g2 1 (.slice (some (h_.next,0)) 2 2 0) (([x.hazards[k].name,x.hazards[k].on]:List Str).map Flat.enc):=jA (by omega) gg2
  refine dC (H:=H) (z:=1) ds2.hri (X.trans ds2.x) (O.ext ds2.x) S_ rfl rfl rfl rfl rfl rfl rfl rfl rfl rfl rfl rfl rfl (by
   simp only[List.length_map,List.length_append,List.length_cons,List.length_nil];show _*16<=_;omega) λq3 v3 g3 hr3 X3 n3 k3 O3 _ i3=> ?_
  obtain⟨pv,nv,cv,xv,e⟩:=O3.form;cases e;repeat refine aC ?_
  repeat refine W.g ?_
  exact⟨k+1,aI c1,X3,rfl,rfl,c1,_,rfl,by rw[aM c1,<-List.append_assoc,aX];exact O3⟩
 repeat refine W.g ?_
 rw[show k=x.hazards.length by omega,List.take_length,<-hhA]at O;exact q _ _ (XH.trans X) (bZ Flat.iff O.sl)
end
end Go.Proofs.YtfheibkikpefkaaGreatDoor
